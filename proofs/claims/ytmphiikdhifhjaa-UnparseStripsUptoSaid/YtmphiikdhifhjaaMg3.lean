/- Part 3 of the proof: The program's own, empty; The program's empty, enum; kinds.Right, once the checker's check is known; Numbers in tens: the reference's Put; Numbers in tens: the program's Put; The text of a type, plain; the reference's Label and comma; The reference's text of a type: Label, comma, part, Type; The reference's text of a part; The reference's text of a type; The library's strings.Join, laid at this program by the kit's tool (lay-plain; wip/tools/lay.sh); The program's text of a label, of what stands behind a part's type, of lists; The program's text of a type: field, tag, kind; unparse.Type, once the checker's check is known; A type with which nothing is wrong is fine for its text; Readable data as data of the evaluator: what the statement's form reads of an argument is a datum of the evaluator, of the argument's type, no heavier than what was read; What is read of a type, as the plain data; From a contract over data to what a law's statement asks: the arguments are read, the call returns true, all that was there stays; What all laws' frames share: the bulk, the program's closed facts; Types without places: plain, and the program's kinds.Strip; Schemas: plain, as the evaluator has them, without places; What is read of a schema, as the plain data; What the frames of laws over schemas share; The reference of chapters 15 and 17 on schemas: Placeless, Same, Great; The reference of chapter 17: Great, Same; The program's comparing of schemas; The program's and the reference's check of names that must differ; The checker's part, once check is known for lighter types; The checker's parts, once check is known for lighter types. No condition. -/
import Derived.Shelf.Strings.OnBuilder
import Derived.Deep.Slices
import Derived.ChangeArms
import Derived.DataReads
import Derived.WalkKit
import Derived.ProofKit
import Derived.OpenShut
import Derived.Carry
import Derived.JoinedCond
import Derived.Test.YtmphiikdhifhjaaRows
import Derived.Test.YtmphiikdhifhjaaMg2
set_option linter.all false
set_option maxRecDepth 100000
namespace Go.Proofs.Ytmphiikdhifhjaa
open Go Go.RowKit Dv Try

/-- Has a type nothing but what is its own? -/
def ownF (h : Hd) (ps : Pts) : Bool :=
  (((((decide (h.kind = 2) || (decide (h.lo = 0) && decide (h.hi = 0))) && ((decide (h.kind = 3) || decide (h.kind = 5)) || decide (h.most = 0))) && (decide (ps.len = 0) || (decide (5 ≤ h.kind) && decide (h.kind ≤ 8)))) &&
    (decide (h.names.length = 0) || decide (h.kind = 4))) && (decide (h.name.s = emptyB) || decide (h.kind = 9)))

theorem kown_spec (h : Hd) (ps : Pts) : EvP Try.prog 37 [.agg (dTy (.mk h ps))] (.v (.bool (ownF h ps))) := by
  have l1 : (((dPts ps).length : Int) = 0) = (ps.len = 0) := by rw [dPts_len]; exact propext (by omega)
  have l2 : (((dWds h.names).length : Int) = 0) = (h.names.length = 0) := by rw [dWds_len]; exact propext (by omega)
  have he : (⟨#[]⟩ : ByteArray) = emptyB := rfl
  refine ev_go (P := Try.prog) tt tt_ok 5000 67 [.tmp 2] Try.func37 rfl Try.ntmps37 rfl (Nat.le_of_ble_eq_true rfl) (fun E9 w9 hn9 hm9 => ?_)
  refine br (fun k2 => ?_) (fun k2 => ?_)
  · have k2 : h.kind = 2 := of_decide_eq_true k2
    refine (congrArg (fun b => DV.v (.bool b)) ?_ : _ = _)
    rw [Bool.eq_iff_iff]
    simp [pickB_and, pickB_or, ownF, dPts_len, dWds_len, k2, he]
  have k2 : ¬ h.kind = 2 := of_decide_eq_false k2
  refine br (fun k3 => ?_) (fun k3 => ?_)
  · have k3 : h.kind = 3 := of_decide_eq_true k3
    refine br (fun _ => ?_) (fun hf => ?_)
    · refine (congrArg (fun b => DV.v (.bool b)) ?_ : _ = _)
      rw [Bool.eq_iff_iff]
      simp [pickB_and, pickB_or, ownF, dPts_len, dWds_len, k3, he]
    · exact absurd k3 (of_decide_eq_false hf)
  have k3 : ¬ h.kind = 3 := of_decide_eq_false k3
  refine br (fun k5 => ?_) (fun k5 => ?_)
  · have k5 : h.kind = 5 := of_decide_eq_true k5
    refine (congrArg (fun b => DV.v (.bool b)) ?_ : _ = _)
    rw [Bool.eq_iff_iff]
    simp [pickB_and, pickB_or, ownF, dPts_len, dWds_len, k5, he]
  have k5 : ¬ h.kind = 5 := of_decide_eq_false k5
  refine (congrArg (fun b => DV.v (.bool b)) ?_ : _ = _)
  rw [Bool.eq_iff_iff]
  simp [pickB_and, pickB_or, ownF, dPts_len, dWds_len, k2, k3, k5, he]

theorem samePts_refl : ∀ ps : Pts, samePts ps ps = true := by
  have wr : ∀ l : List Wd, sameWds l l = true := by
    intro l
    induction l with
    | nil => rfl
    | cons x r ih => simp [sameWds, ih]
  have key : ∀ n, (∀ t : Ty, t.wt ≤ n → sameTy t t = true) ∧ (∀ ps : Pts, ps.wt ≤ n → samePts ps ps = true) := by
    intro n
    induction n using Nat.strongRecOn with
    | _ n ih =>
      have hp : ∀ ps : Pts, ps.wt ≤ n → (∀ t : Ty, t.wt + 256 ≤ n → sameTy t t = true) → samePts ps ps = true := by
        intro ps
        induction ps using Pts.rec (motive_1 := fun _ => True) with
        | mk => trivial
        | nil => intros; simp [samePts]
        | cons p t r _ ihr =>
          intro hw ht
          simp only [Pts.wt, Ph.wt] at hw
          simp only [samePts]
          rw [ht t (by omega), ihr (by omega) ht]
          simp [plainP, wr]
      refine ⟨fun t ht => ?_, fun ps hps => ?_⟩
      · obtain ⟨h, ps⟩ := t
        simp only [Ty.wt, Hd.wt] at ht
        simp only [sameTy, sameHd]
        rw [(ih ps.wt (by omega)).2 ps (Nat.le_refl _), wr]
        simp
      · exact hp ps hps fun t ht => (ih t.wt (by omega)).1 t (Nat.le_refl _)
  exact fun ps => (key ps.wt).2 ps (Nat.le_refl _)

theorem ownF_eq (h : Hd) (ps : Pts) : ownF h ps = sameTy (.mk h ps) (mask (.mk h ps)) := by
  have wr : ∀ l : List Wd, sameWds l l = true := by
    intro l
    induction l with
    | nil => rfl
    | cons x r ih => simp [sameWds, ih]
  have wn : ∀ l : List Wd, sameWds l [] = decide (l.length = 0) := by
    intro l; cases l <;> simp [sameWds]
  have pn : ∀ l : Pts, samePts l .nil = decide (l.len = 0) := by
    intro l; cases l <;> simp [samePts, Pts.len]
  have pr := samePts_refl ps
  simp only [mask, sameTy, sameHd, maskHd]
  have e5 : samePts ps (if 4 < h.kind ∧ h.kind < 9 then ps else .nil) = (decide (ps.len = 0) || (decide (5 ≤ h.kind) && decide (h.kind ≤ 8))) := by
    split
    · rename_i hc
      rw [pr, decide_eq_true (by omega : 5 ≤ h.kind), decide_eq_true (by omega : h.kind ≤ 8)]; simp
    · rename_i hc
      rw [pn, Bool.eq_iff_iff]
      simp
      omega
  have e6 : sameWds h.names (if h.kind = 4 then h.names else []) = (decide (h.names.length = 0) || decide (h.kind = 4)) := by
    split
    · rename_i hc; rw [wr]; simp [hc]
    · rename_i hc; rw [wn]; simp [hc]
  rw [e5, e6]
  unfold ownF
  by_cases k2 : h.kind = 2
  · rw [Bool.eq_iff_iff]; simp [k2]; grind
  · by_cases k3 : h.kind = 3 ∨ h.kind = 5
    · by_cases k9 : h.kind = 9
      · omega
      · rw [Bool.eq_iff_iff]; simp [k2, k3, k9]; grind
    · by_cases k9 : h.kind = 9
      · rw [Bool.eq_iff_iff]; simp [k9]; grind
      · rw [Bool.eq_iff_iff]; simp [k2, k3, k9]; grind
end Go.Proofs.Ytmphiikdhifhjaa
set_option maxRecDepth 100000
namespace Go.Proofs.Ytmphiikdhifhjaa
open Go Go.RowKit Dv Try

theorem kempty_spec (p : Ph) (t : Ty) (hp : p.wt ≤ 1099511627776) : EvP Try.prog 45 [.agg (dPh p (dTy t))] (.v (.bool (samePartB p zeroTy zeroPh zeroTy))) := by
  obtain ⟨th, tps⟩ := t
  refine ev_go (P := Try.prog) tt tt_ok 5000 8 [.tmp 2] Try.func45 rfl Try.ntmps45 rfl (Nat.le_of_ble_eq_true rfl) (fun E9 w9 hn9 hm9 => ?_)
  refine call_p (enters_of Try.func28 (by decide +kernel) rfl) (samePart_of p zeroPh zeroTy zeroTy hp (by decide) (ksame_spec zeroTy zeroTy (by decide) (by decide))) (by repeat' (first | exact rfl | exact trivial | exact Or.inr (Or.inl ⟨_, rfl⟩) | exact Or.inr ⟨_, rfl⟩ | exact Or.inl ⟨rfl, rfl⟩ | exact Or.inl rfl | refine Or.inr ⟨_, _, rfl, Nat.zero_le _, rfl, ?_⟩ | refine ⟨_, _, rfl, ?_, ?_⟩ | refine ⟨_, rfl, ?_⟩ | refine Or.inr (Or.inr (Or.inr ⟨_, _, rfl, ?_⟩)) | exact Or.inl rfl | refine Or.inr ?_)) rfl ?_
  exact (rfl : _ = _)

/-- The names so far, each a text. -/
def nmTx (l : List Wd) : List ByteArray := l.map fun w => w.s
/-- The first name that is none, or stands earlier, too. -/
noncomputable def enumP (l : List Wd) : Nat → Ft
  | 0 => (0, 0)
  | e + 1 =>
    if (enumP l e).1 ≠ 0 then enumP l e
    else match l[e]? with
      | some w => listedP (nmTx (l.take (e + 1))) w.s w.a
      | none => (0, 0)
theorem enumP_stay {l : List Wd} {e : Nat} (h : (enumP l e).1 ≠ 0) : ∀ d, enumP l (e + d) = enumP l e
  | 0 => rfl
  | d + 1 => by
    have ih := enumP_stay h d
    rw [← Nat.add_assoc, enumP, ih, if_pos h]
theorem listedP_zero {L : List ByteArray} {x : ByteArray} {a : Int} (h : (listedP L x a).1 = 0) : listedP L x a = (0, 0) := by
  unfold listedP at *
  split
  · rename_i h1
    rw [if_pos h1] at h
    split
    · rfl
    · rename_i h2
      rw [if_neg h2] at h
      simp at h
  · rename_i h1
    rw [if_neg h1] at h
    simp at h
theorem enumP_zero {l : List Wd} : ∀ {e : Nat}, (enumP l e).1 = 0 → enumP l e = (0, 0)
  | 0, _ => rfl
  | e + 1, h => by
    rw [enumP] at h ⊢
    split
    · rename_i h1
      rw [if_pos h1] at h
      exact absurd h h1
    · rename_i h1
      rw [if_neg h1] at h
      split
      · rename_i w hw
        rw [hw] at h
        exact listedP_zero h
      · rfl
theorem enumP_step {l : List Wd} {e : Nat} {w : Wd} (h : (enumP l e).1 = 0) (hw : l[e]? = some w) : enumP l (e + 1) = listedP (nmTx (l.take (e + 1))) w.s w.a := by
  rw [enumP, if_neg (by rw [h]; simp), hw]
noncomputable def kenumF (h : Hd) : Ft :=
  if h.names.length = 0 then (15, h.at') else if 64 < h.names.length then (8, ((h.names[64]?).getD (⟨emptyB, 0⟩ : Wd)).a) else enumP h.names h.names.length

abbrev enumSt (h : Hd) (ps : Pts) (n e : Nat) : St :=
  ⟨[(1, ⟨[], .loc 0 0⟩), (2, ⟨[], .loc 1 0⟩), (27, ⟨[], .sl 2 (dWds h.names) none⟩), (28, ⟨[], .v (.int .i64 (dWds h.names).length)⟩), (29, ⟨[], .v (.int .i64 e)⟩), (3, ⟨[], .sl 1 (dBs (nmTx (h.names.take e))) (some 0)⟩)],
   [dTy (.mk h ps), [.v (.int .i64 0), .v (.int .i64 0)]], [⟨n, 9, 1⟩]⟩

theorem nmTx_snoc {l : List Wd} {e : Nat} {w : Wd} (h : l[e]? = some w) : dBs (nmTx (l.take e)) ++ [[DV.v (.string w.s)]] = dBs (nmTx (l.take (e + 1))) := by
  rw [List.take_add_one, h]
  simp [dBs, nmTx]

theorem kenum_spec (h : Hd) (ps : Pts) (hs : wdsWt h.names ≤ 1099511627776) : EvP Try.prog 38 [.agg (dTy (.mk h ps))] (kenumF h).d := by
  have hl := wdsWt_len h.names
  refine ev_go (P := Try.prog) tt tt_ok 5000 48 [.cell 2 56] Try.func38 rfl Try.ntmps38 rfl (Nat.le_of_ble_eq_true rfl) (fun E9 w9 hn9 hm9 => ?_)
  refine br (fun h0 => ?_) (fun h0 => ?_)
  · have h0 : h.names.length = 0 := by have := h0; simp [dWds_len] at this; simp [this]
    refine call_p (enters_of Try.func36 (by decide +kernel) rfl) (bad_spec 15 h.at') (by repeat' (first | exact rfl | exact trivial | exact Or.inr (Or.inl ⟨_, rfl⟩) | exact Or.inr ⟨_, rfl⟩ | exact Or.inl ⟨rfl, rfl⟩ | exact Or.inl rfl | refine Or.inr ⟨_, _, rfl, Nat.zero_le _, rfl, ?_⟩ | refine ⟨_, _, rfl, ?_, ?_⟩ | refine ⟨_, rfl, ?_⟩ | refine Or.inr (Or.inr (Or.inr ⟨_, _, rfl, ?_⟩)) | exact Or.inl rfl | refine Or.inr ?_)) rfl ?_
    refine ⟨_, ?_, rfl⟩
    rw [kenumF, if_pos h0]
    exact (by repeat' (first | exact rfl | exact trivial | exact Or.inr (Or.inl ⟨_, rfl⟩) | exact Or.inr ⟨_, rfl⟩ | exact Or.inl ⟨rfl, rfl⟩ | exact Or.inl rfl | refine Or.inr ⟨_, _, rfl, Nat.zero_le _, rfl, ?_⟩ | refine ⟨_, _, rfl, ?_, ?_⟩ | refine ⟨_, rfl, ?_⟩ | refine Or.inr (Or.inr (Or.inr ⟨_, _, rfl, ?_⟩)) | exact Or.inl rfl | refine Or.inr ?_))
  have h0 : ¬ h.names.length = 0 := by have := h0; simp [dWds_len] at this; simpa using this
  refine br (fun h1 => ?_) (fun h1 => ?_)
  · have h1 : 64 < h.names.length := by have := h1; simp [dWds_len] at this; omega
    obtain ⟨x, hx⟩ : ∃ x, h.names[64]? = some x := ⟨_, List.getElem?_eq_getElem h1⟩
    refine ⟨dWd x, ⟨by omega, dWds_get hx⟩, ?_⟩
    refine call_p (enters_of Try.func36 (by decide +kernel) rfl) (bad_spec 8 x.a) (by repeat' (first | exact rfl | exact trivial | exact Or.inr (Or.inl ⟨_, rfl⟩) | exact Or.inr ⟨_, rfl⟩ | exact Or.inl ⟨rfl, rfl⟩ | exact Or.inl rfl | refine Or.inr ⟨_, _, rfl, Nat.zero_le _, rfl, ?_⟩ | refine ⟨_, _, rfl, ?_, ?_⟩ | refine ⟨_, rfl, ?_⟩ | refine Or.inr (Or.inr (Or.inr ⟨_, _, rfl, ?_⟩)) | exact Or.inl rfl | refine Or.inr ?_)) rfl ?_
    refine ⟨_, ?_, rfl⟩
    rw [kenumF, if_neg h0, if_pos h1, hx]
    exact (by repeat' (first | exact rfl | exact trivial | exact Or.inr (Or.inl ⟨_, rfl⟩) | exact Or.inr ⟨_, rfl⟩ | exact Or.inl ⟨rfl, rfl⟩ | exact Or.inl rfl | refine Or.inr ⟨_, _, rfl, Nat.zero_le _, rfl, ?_⟩ | refine ⟨_, _, rfl, ?_, ?_⟩ | refine ⟨_, rfl, ?_⟩ | refine Or.inr (Or.inr (Or.inr ⟨_, _, rfl, ?_⟩)) | exact Or.inl rfl | refine Or.inr ?_))
  have h1 : ¬ 64 < h.names.length := by have := h1; simp [dWds_len] at this; omega
  have hk : kenumF h = enumP h.names h.names.length := by rw [kenumF, if_neg h0, if_neg h1]
  rw [hk]
  refine loop_i (fun j st => ∃ e : Nat, st = enumSt h ps e e ∧ e ≤ h.names.length ∧ (enumP h.names e).1 = 0 ∧ j = h.names.length - e) h.names.length (enumSt h ps 0 0) (weak_tok ⟨0, 9, 1⟩ rfl ⟨_, rfl⟩ rfl (by repeat' (first | exact rfl | exact we_rfl rfl | refine ⟨_, _, rfl, ?_, ?_⟩)) rfl rfl (by repeat' (first | exact trivial | exact we_rfl rfl | exact we_rfl rfl | exact we_tok (Nat.le_refl _) rfl | refine ⟨⟨_, rfl, ?_⟩, ?_⟩))) ⟨0, rfl, by omega, rfl, by omega⟩ ?_
  rintro j st ⟨e, rfl, he, hz, rfl⟩
  refine br (fun hL => ?_) (fun hL => ?_)
  · have hlt : e < h.names.length := by simpa [dWds_len] using hL
    obtain ⟨w, hw⟩ : ∃ w, h.names[e]? = some w := ⟨_, List.getElem?_eq_getElem hlt⟩
    have hws := wdsWt_mem (List.mem_of_getElem? hw)
    have hstep := enumP_step hz hw
    have hlast : (nmTx (h.names.take (e + 1)))[(nmTx (h.names.take (e + 1))).length - 1]? = some w.s := by
      have hl1 : (nmTx (h.names.take (e + 1))).length = e + 1 := by simp [nmTx]; omega
      rw [hl1]
      simp [nmTx, hw]
    refine ⟨dWd w, ⟨by omega, dWds_get hw⟩, ?_⟩
    refine ⟨by simp [dBs_len, nmTx]; omega, ⟨by simp [dBs_len, nmTx, maxLen]; omega, by simp [dBs_len, nmTx]; omega⟩, ?_⟩
    have hsn := nmTx_snoc hw
    have hsp := listed_spec (nmTx (h.names.take (e + 1))) w.s w.a hlast (by simp [nmTx]; omega) (by omega)
    rw [← hsn, ← hstep] at hsp
    refine call_p (enters_of Try.func44 (by decide +kernel) rfl) (hsp) (by repeat' (first | exact rfl | exact trivial | exact Or.inr (Or.inl ⟨_, rfl⟩) | exact Or.inr ⟨_, rfl⟩ | exact Or.inl ⟨rfl, rfl⟩ | exact Or.inl rfl | refine Or.inr ⟨_, _, rfl, Nat.zero_le _, rfl, ?_⟩ | refine ⟨_, _, rfl, ?_, ?_⟩ | refine ⟨_, rfl, ?_⟩ | refine Or.inr (Or.inr (Or.inr ⟨_, _, rfl, ?_⟩)) | exact Or.inl rfl | refine Or.inr ?_)) rfl ?_
    refine br (fun hf => ?_) (fun hf => ?_)
    · have hf : (enumP h.names (e + 1)).1 ≠ 0 := by simpa using hf
      refine ⟨_, ?_, rfl⟩
      have hst := enumP_stay hf (h.names.length - (e + 1))
      rw [show e + 1 + (h.names.length - (e + 1)) = h.names.length by omega] at hst
      rw [hst]
      exact (by repeat' (first | exact rfl | exact trivial | exact Or.inr (Or.inl ⟨_, rfl⟩) | exact Or.inr ⟨_, rfl⟩ | exact Or.inl ⟨rfl, rfl⟩ | exact Or.inl rfl | refine Or.inr ⟨_, _, rfl, Nat.zero_le _, rfl, ?_⟩ | refine ⟨_, _, rfl, ?_, ?_⟩ | refine ⟨_, rfl, ?_⟩ | refine Or.inr (Or.inr (Or.inr ⟨_, _, rfl, ?_⟩)) | exact Or.inl rfl | refine Or.inr ?_))
    · have hf : (enumP h.names (e + 1)).1 = 0 := by simpa using hf
      refine ⟨enumSt h ps (e + 1) (e + 1), (weak_mk ⟨_, rfl⟩ (by repeat' (first | exact rfl | exact we_rfl rfl | refine ⟨_, _, rfl, ?_, ?_⟩)) rfl rfl rfl (by repeat' (first | exact trivial | exact we_rfl rfl | exact we_int (nxt hlt (by omega)) | exact we_sl hsn rfl | refine ⟨⟨_, rfl, ?_⟩, ?_⟩))), h.names.length - (e + 1), by omega, e + 1, rfl, by omega, hf, rfl⟩
  · have hge : e = h.names.length := by
      have := hL; simp [dWds_len] at this; omega
    subst hge
    have hst := enumP_zero hz
    refine ⟨_, ?_, rfl⟩
    rw [hst]
    exact (by repeat' (first | exact rfl | exact trivial | exact Or.inr (Or.inl ⟨_, rfl⟩) | exact Or.inr ⟨_, rfl⟩ | exact Or.inl ⟨rfl, rfl⟩ | exact Or.inl rfl | refine Or.inr ⟨_, _, rfl, Nat.zero_le _, rfl, ?_⟩ | refine ⟨_, _, rfl, ?_, ?_⟩ | refine ⟨_, rfl, ?_⟩ | refine Or.inr (Or.inr (Or.inr ⟨_, _, rfl, ?_⟩)) | exact Or.inl rfl | refine Or.inr ?_))
end Go.Proofs.Ytmphiikdhifhjaa
set_option maxRecDepth 100000
namespace Go.Proofs.Ytmphiikdhifhjaa
open Go Go.RowKit Dv Try

/-- What check says: the fault, and how many types so far, where nothing is wrong. -/
def ChkΦ (t : Ty) (depth m : Int) (r : DV) (os : List (List DV)) (_ : List TkE) : Prop :=
  r = (wrong t depth m).1.d ∧ ∃ z : Int, os = [[.v (.int .i64 z)]] ∧ ((wrong t depth m).1.1 = 0 → z = (wrong t depth m).2)

theorem chk_cl {t : Ty} {depth m : Int} : ∀ r os tk, ChkΦ t depth m r os tk → clB 0 0 r = true ∧ ∀ cs2 ∈ os, clB.clL 0 0 cs2 = true := by
  rintro r os tk ⟨rfl, z, rfl, _⟩
  refine ⟨rfl, fun cs2 h => ?_⟩
  simp only [List.mem_singleton] at h
  subst h
  rfl

theorem kright_of (t : Ty) (hc : Ev Try.prog 29 [.loc 0 0, .agg (dTy t), .v (.int .i64 1)] [[.v (.int .i64 0)]] [] (ChkΦ t 1 0)) :
    EvP Try.prog 20 [.agg (dTy t)] (wrong t 1 0).1.d := by
  obtain ⟨h, ps⟩ := t
  refine ev_go (P := Try.prog) tt tt_ok 5000 9 [.cell 2 56] Try.func20 rfl Try.ntmps20 rfl (Nat.le_of_ble_eq_true rfl) (fun E9 w9 hn9 hm9 => ?_)
  refine call_o (enters_of Try.func29 (by decide +kernel) rfl) rfl rfl (by repeat' (first | exact rfl | exact trivial | exact Or.inr (Or.inl ⟨_, rfl⟩) | exact Or.inr ⟨_, rfl⟩ | exact Or.inl ⟨rfl, rfl⟩ | exact Or.inl rfl | refine Or.inr ⟨_, _, rfl, Nat.zero_le _, rfl, ?_⟩ | refine ⟨_, _, rfl, ?_, ?_⟩ | refine ⟨_, rfl, ?_⟩ | refine Or.inr (Or.inr (Or.inr ⟨_, _, rfl, ?_⟩)) | exact Or.inl rfl | refine Or.inr ?_)) (by repeat' (first | exact rfl | exact trivial | exact Or.inr (Or.inl ⟨_, rfl⟩) | exact Or.inr ⟨_, rfl⟩ | exact Or.inl ⟨rfl, rfl⟩ | exact Or.inl rfl | refine Or.inr ⟨_, _, rfl, Nat.zero_le _, rfl, ?_⟩ | refine ⟨_, _, rfl, ?_, ?_⟩ | refine ⟨_, rfl, ?_⟩ | refine Or.inr (Or.inr (Or.inr ⟨_, _, rfl, ?_⟩)) | exact Or.inl rfl | refine Or.inr ?_)) hc chk_cl (fun r cs2 hr => ?_)
  obtain ⟨rfl, z, hz, _⟩ := hr
  simp only [List.cons.injEq, and_true] at hz
  subst hz
  exact ⟨_, (by repeat' (first | exact rfl | exact trivial | exact Or.inr (Or.inl ⟨_, rfl⟩) | exact Or.inr ⟨_, rfl⟩ | exact Or.inl ⟨rfl, rfl⟩ | exact Or.inl rfl | refine Or.inr ⟨_, _, rfl, Nat.zero_le _, rfl, ?_⟩ | refine ⟨_, _, rfl, ?_, ?_⟩ | refine ⟨_, rfl, ?_⟩ | refine Or.inr (Or.inr (Or.inr ⟨_, _, rfl, ?_⟩)) | exact Or.inl rfl | refine Or.inr ?_)), rfl⟩
end Go.Proofs.Ytmphiikdhifhjaa
set_option maxRecDepth 100000
namespace Go.Proofs.Ytmphiikdhifhjaa
open Go Go.RowKit Dv Try

/-- A number's digits. -/
def digs (n : Nat) : List UInt8 := if n < 10 then [UInt8.ofNat (48 + n)] else digs (n / 10) ++ [UInt8.ofNat (48 + n % 10)]
termination_by n
decreasing_by omega

theorem digs_lt {n : Nat} (h : n < 10) : digs n = [UInt8.ofNat (48 + n)] := by rw [digs, if_pos h]
theorem digs_ge {n : Nat} (h : ¬ n < 10) : digs n = digs (n / 10) ++ [UInt8.ofNat (48 + n % 10)] := by rw [digs, if_neg h]

theorem digs_len : ∀ (k n : Nat), n < 10 ^ (k + 1) → (digs n).length ≤ k + 1
  | 0, n, h => by
    have : n < 10 := by simpa using h
    rw [digs_lt this]; simp
  | k + 1, n, h => by
    by_cases hn : n < 10
    · rw [digs_lt hn]; simp
    · rw [digs_ge hn]
      have h2 : n / 10 < 10 ^ (k + 1) := by
        rw [Nat.div_lt_iff_lt_mul (by decide)]
        rw [Nat.pow_succ] at h
        exact h
      have := digs_len k (n / 10) h2
      simp only [List.length_append, List.length_cons, List.length_nil]
      omega
theorem digs_20 {n : Nat} (h : n ≤ 18446744073709551616) : (digs n).length ≤ 20 := digs_len 19 n (by omega)

/-- A number's text. -/
def putL (z : Int) : List UInt8 := if z < 0 then 45 :: digs z.natAbs else digs z.natAbs
def putD (z : Int) : ByteArray := ⟨(putL z).toArray⟩

theorem putL_len {z : Int} (h1 : -9223372036854775808 ≤ z) (h2 : z ≤ 9223372036854775807) : (putL z).length ≤ 21 := by
  have := digs_20 (n := z.natAbs) (by omega)
  unfold putL
  split
  · simp only [List.length_cons]; omega
  · omega
theorem putD_size {z : Int} (h1 : -9223372036854775808 ≤ z) (h2 : z ≤ 9223372036854775807) : (putD z).size ≤ 21 := putL_len h1 h2

theorem ba_app (a b : List UInt8) : (⟨a.toArray⟩ : ByteArray) ++ ⟨b.toArray⟩ = ⟨(a ++ b).toArray⟩ := by
  apply ByteArray.ext
  simp

theorem wr (z : Int) (h1 : -9223372036854775808 ≤ z) (h2 : z ≤ 9223372036854775807) : IntKind.i64.wrap z = z := by
  rw [IntKind.wrap_i64]; omega

theorem putL_nn {z : Int} (h : 0 ≤ z) : putL z = digs z.toNat := by
  unfold putL
  rw [if_neg (by omega)]
  congr 1
  omega

theorem putL_neg {z : Int} (h : z < 0) : putL z = 45 :: digs z.natAbs := by unfold putL; rw [if_pos h]

end Go.Proofs.Ytmphiikdhifhjaa
set_option maxRecDepth 100000
namespace Go.Proofs.Ytmphiikdhifhjaa
open Go Go.RowKit Dv Try

theorem u8L_map : ∀ bs : List UInt8, u8L bs = bs.map fun b => DV.v (.int .u8 (b.toNat : Int))
  | [] => rfl
  | b :: r => by simp [u8L, u8L_map r]
theorem u8L_len (bs : List UInt8) : (u8L bs).length = bs.length := by simp [u8L_map]
theorem u8L_app (a b : List UInt8) : u8L (a ++ b) = u8L a ++ u8L b := by simp [u8L_map]
theorem u8L_take (n : Nat) (a : List UInt8) : u8L (a.take n) = (u8L a).take n := by simp [u8L_map, List.map_take]
theorem u8L_drop (n : Nat) (a : List UInt8) : u8L (a.drop n) = (u8L a).drop n := by simp [u8L_map, List.map_drop]
theorem weL_u8' {n m : Nat} {tk : List TkE} : ∀ bs : List UInt8, WeL n m tk (u8L bs) (u8L bs)
  | [] => rfl
  | b :: r => ⟨_, _, rfl, we_rfl rfl, weL_u8' r⟩
theorem weL_u8 {n m : Nat} {tk : List TkE} {l : List DV} {bs : List UInt8} (h : l = u8L bs) : WeL n m tk l (u8L bs) := by rw [h]; exact weL_u8' bs

theorem digs_pos (n : Nat) : 0 < (digs n).length := by
  rw [digs]; split <;> simp

abbrev putSt (m : Bool) (u a : Nat) (bs : List UInt8) : St := ⟨[(3, ⟨[], .v (.bool m)⟩), (4, ⟨[], .v (.int .u64 u)⟩), (5, ⟨[], .loc 0 0⟩), (6, ⟨[], .v (.int .i64 a)⟩)], [u8L bs], []⟩
def putI (m : Bool) (N j : Nat) (st : St) : Prop := ∃ (u a : Nat) (bs : List UInt8), st = putSt m u a bs ∧ bs.length = 20 ∧ a ≤ 20 ∧ u < 18446744073709551616 ∧
  ((a < 20 ∧ u = 0 ∧ digs N = bs.drop a) ∨ ((a = 20 ∨ 0 < u) ∧ digs N = digs u ++ bs.drop a)) ∧ j = a

theorem putI_0 (m : Bool) (N : Nat) (h : N < 18446744073709551616) : putI m N 20 (putSt m N 20 (List.replicate 20 0)) :=
  ⟨N, 20, _, rfl, by simp, Nat.le_refl _, h, .inr ⟨.inl rfl, by simp⟩, rfl⟩

/-- digits.Put: the number's text. -/
theorem put_spec (z : Int) (h1 : -9223372036854775808 ≤ z) (h2 : z ≤ 9223372036854775807) : EvP Try.prog 30 [.v (.int .i64 z)] (.v (.string (putD z))) := by
  have hN : z.natAbs ≤ 9223372036854775808 := by omega
  refine ev_go (P := Try.prog) tt tt_ok 5000 38 [.tmp 2] Try.func30 rfl Try.ntmps30 rfl (Nat.le_of_ble_eq_true rfl) (fun E9 w9 hn9 hm9 => ?_)
  refine br (fun h => ?_) (fun h => ?_)
  case' refine_1 =>
    have hz : z < 0 := by simpa using h
    have hu : IntKind.u64.wrap (0 - IntKind.u64.wrap z) = (z.natAbs : Int) := by
      simp only [IntKind.wrap_u64]; omega
    refine loop_i (putI (decide (z < 0)) z.natAbs) 20 (putSt (decide (z < 0)) z.natAbs 20 (List.replicate 20 0)) (weak_mk ⟨_, rfl⟩ (by repeat' (first | exact rfl | exact we_rfl rfl | exact weL_u8 rfl | refine ⟨_, _, rfl, ?_, ?_⟩)) rfl rfl rfl (by repeat' (first | exact trivial | exact we_rfl rfl | exact we_int hu | exact weL_u8 rfl | refine ⟨⟨_, rfl, ?_⟩, ?_⟩))) (putI_0 _ _ (by omega)) ?_
  case' refine_2 =>
    have hz : ¬ z < 0 := by simpa using h
    have hu : IntKind.u64.wrap z = (z.natAbs : Int) := by
      simp only [IntKind.wrap_u64]; omega
    refine loop_i (putI (decide (z < 0)) z.natAbs) 20 (putSt (decide (z < 0)) z.natAbs 20 (List.replicate 20 0)) (weak_mk ⟨_, rfl⟩ (by repeat' (first | exact rfl | exact we_rfl rfl | exact weL_u8 rfl | refine ⟨_, _, rfl, ?_, ?_⟩)) rfl rfl rfl (by repeat' (first | exact trivial | exact we_rfl rfl | exact we_int hu | exact weL_u8 rfl | refine ⟨⟨_, rfl, ?_⟩, ?_⟩))) (putI_0 _ _ (by omega)) ?_
  all_goals
    clear hu hz h
    rintro a st ⟨u, j, bs, rfl, hbl, ha, hu64, hinv, rfl⟩
    refine br (fun h => ?_) (fun h => ?_)
    · have hc : a = 20 ∨ 0 < u := by
        simp [pickB_or] at h; omega
      have hd : digs z.natAbs = digs u ++ bs.drop a := by
        rcases hinv with ⟨h3, h4, _⟩ | ⟨_, h3⟩
        · omega
        · exact h3
      have hp : 0 < a := by
        have e1 := congrArg List.length hd
        have e2 := digs_pos u
        have e3 := digs_20 (n := z.natAbs) (by omega)
        simp only [List.length_append, List.length_drop, hbl] at e1
        omega
      have ha' : IntKind.i64.wrap ((a : Int) - 1) = ((a - 1 : Nat) : Int) := by rw [wr _ (by omega) (by omega)]; omega
      have hb : IntKind.u8.wrap (48 + IntKind.u8.wrap ((u : Int).tmod 10)) = ((UInt8.ofNat (48 + u % 10)).toNat : Int) := by
        rw [Int.tmod_eq_emod_of_nonneg (by omega), UInt8.toNat_ofNat', IntKind.wrap_u8', IntKind.wrap_u8']
        omega
      have hq : IntKind.u64.wrap ((u : Int).tdiv 10) = ((u / 10 : Nat) : Int) := by
        rw [Int.tdiv_eq_ediv_of_nonneg (by omega), IntKind.wrap_u64]
        omega
      refine ⟨⟨rfl, by decide⟩, ?_⟩
      refine ⟨⟨by rw [ha']; omega, by rw [ha']; omega⟩, ?_⟩
      have hoff : 0 + (IntKind.i64.wrap ((a : Int) - 1)).toNat * 1 = a - 1 := by rw [ha']; omega
      refine br (fun _ => ?_) (fun h => ?_)
      · refine splF_i ?_ (splF_eq _ _ _ _)
        refine ⟨⟨rfl, by decide⟩, ?_⟩
        have hcs : (u8L bs).take (0 + (IntKind.i64.wrap ((a : Int) - 1)).toNat * 1) ++ [DV.v (.int .u8 (IntKind.u8.wrap (48 + IntKind.u8.wrap ((u : Int).tmod 10))))] ++ (u8L bs).drop (0 + (IntKind.i64.wrap ((a : Int) - 1)).toNat * 1 + 1) = u8L (bs.take (a - 1) ++ [UInt8.ofNat (48 + u % 10)] ++ bs.drop a) := by
          rw [hoff, hb, u8L_app, u8L_app, u8L_take, u8L_drop, show a - 1 + 1 = a by omega]
          rfl
        refine ⟨putSt (decide (z < 0)) (u / 10) (a - 1) (bs.take (a - 1) ++ [UInt8.ofNat (48 + u % 10)] ++ bs.drop a), (weak_b 1 rfl (by repeat' (first | exact rfl | exact we_rfl rfl | exact weL_u8 hcs | exact we_int ha' | exact we_int hq | refine ⟨_, _, rfl, ?_, ?_⟩)) rfl rfl rfl (by repeat' (first | exact trivial | exact we_rfl rfl | exact weL_u8 hcs | exact we_int ha' | exact we_int hq | refine ⟨⟨_, rfl, ?_⟩, ?_⟩))), a - 1, by omega, u / 10, a - 1, _, rfl, by simp; omega, by omega, by omega, ?_, rfl⟩
        have hdrop : (bs.take (a - 1) ++ [UInt8.ofNat (48 + u % 10)] ++ bs.drop a).drop (a - 1) = UInt8.ofNat (48 + u % 10) :: bs.drop a := by
          rw [List.append_assoc, List.drop_append_of_le_length (by simp; omega), List.drop_eq_nil_of_le (by simp; omega)]
          rfl
        rw [hdrop, hd]
        by_cases h10 : u < 10
        · refine .inl ⟨by omega, by omega, ?_⟩
          rw [digs_lt h10, Nat.mod_eq_of_lt h10]; rfl
        · refine .inr ⟨.inr (by omega), ?_⟩
          rw [digs_ge h10, List.append_assoc]; rfl
      · exfalso
        have : (Nat.blt 0 1 && Nat.beq 1 1 && Nat.ble (0 + (IntKind.i64.wrap ((a : Int) - 1)).toNat * 1 + 1) (u8L bs).length) = false := h
        rw [hoff, u8L_len, hbl] at this
        have e : Nat.ble (a - 1 + 1) 20 = true := Nat.ble_eq_true_of_le (by omega)
        rw [e] at this
        exact absurd this (by decide)
    · have hc : a ≠ 20 ∧ u = 0 := by
        simp [pickB_or] at h; omega
      have hd : digs z.natAbs = bs.drop a := by
        rcases hinv with ⟨_, _, h3⟩ | ⟨h3, _⟩
        · exact h3
        · omega
      have hdu : ((u8L bs).drop (0 + (a : Int).toNat * 1)).take (((20 : Nat) : Int).toNat - (a : Int).toNat) = u8L (bs.drop a) := by
        rw [u8L_drop, show 0 + (a : Int).toNat * 1 = a by omega]
        exact List.take_of_length_le (by simp [u8L_len, hbl])
      have hl : (bs.drop a).length = ((20 : Nat) : Int).toNat - (a : Int).toNat := by simp [hbl]
      refine br (fun hz => ?_) (fun hz => ?_)
      · have hz : z < 0 := by simpa using hz
        refine ⟨⟨by omega, by omega, by omega⟩, ?_⟩
        refine ⟨bs.drop a, hdu, hl, ?_⟩
        refine ⟨by show 1 + (bs.drop a).length ≤ _; rw [hl]; omega, ?_⟩
        refine (congrArg (fun s => DV.v (.string s)) ?_ : _ = _)
        rw [← hd, putD, putL_neg hz]
        exact ba_app [45] _
      · have hz : ¬ z < 0 := by simpa using hz
        refine ⟨⟨by omega, by omega, by omega⟩, ?_⟩
        refine ⟨bs.drop a, hdu, hl, ?_⟩
        refine (congrArg (fun s => DV.v (.string s)) ?_ : _ = _)
        rw [← hd, putD, putL_nn (by omega), show z.toNat = z.natAbs by omega]
end Go.Proofs.Ytmphiikdhifhjaa
set_option maxRecDepth 100000
namespace Go.Proofs.Ytmphiikdhifhjaa
open Go Go.RowKit Dv Try

abbrev ba (l : List UInt8) : ByteArray := ⟨l.toArray⟩
def tx (s : ByteArray) : List UInt8 := s.data.toList

theorem ba_ext {s : ByteArray} {l : List UInt8} (h : tx s = l) : s = ba l := by
  subst h
  apply ByteArray.ext
  simp [tx]
theorem tx_app (s t : ByteArray) : tx (s ++ t) = tx s ++ tx t := by simp [tx]
theorem tx_ba (l : List UInt8) : tx (ba l) = l := by simp [tx]
theorem tx_mk (a : Array UInt8) : tx ⟨a⟩ = a.toList := rfl
theorem ba_tx (s : ByteArray) : ba (tx s) = s := (ba_ext rfl).symm
theorem tx_putD (z : Int) : tx (putD z) = putL z := by simp [tx, putD]
theorem tx_len (s : ByteArray) : (tx s).length = s.size := by simp [tx]
theorem sz_app (s t : ByteArray) : (s ++ t).size = s.size + t.size := by simp
theorem sz_ba (l : List UInt8) : (ba l).size = l.length := rfl

/-- Texts one behind the other: f ahead of the first, s ahead of each other. -/
def joinT (f s : List UInt8) : List (List UInt8) → List UInt8
  | [] => []
  | x :: r => f ++ x ++ r.flatMap fun y => s ++ y

theorem joinT_snoc (f s : List UInt8) (x : List UInt8) : ∀ l : List (List UInt8), joinT f s (l ++ [x]) = joinT f s l ++ (if l.length = 0 then f else s) ++ x
  | [] => by simp [joinT]
  | y :: r => by simp [joinT, List.flatMap_append]

/-- How long such a text may be. -/
def jl : List (List UInt8) → Nat
  | [] => 0
  | x :: r => x.length + 2 + jl r
theorem jl_take : ∀ (l : List (List UInt8)) (n : Nat), jl (l.take n) ≤ jl l
  | [], n => by simp [jl]
  | x :: r, 0 => by simp [jl]
  | x :: r, n + 1 => by
    have := jl_take r n
    simp only [List.take_succ_cons, jl]
    omega
theorem flat_len {s : List UInt8} (hs : s.length ≤ 2) : ∀ r : List (List UInt8), (r.flatMap fun y => s ++ y).length ≤ jl r
  | [] => Nat.le_refl _
  | x :: r => by
    have := flat_len hs r
    simp only [List.flatMap_cons, List.length_append, jl]
    omega
theorem joinT_len {f s : List UInt8} (hf : f.length ≤ 2) (hs : s.length ≤ 2) : ∀ l : List (List UInt8), (joinT f s l).length ≤ jl l
  | [] => Nat.le_refl _
  | x :: r => by
    have := flat_len hs r
    simp only [joinT, List.length_append, jl]
    omega

def wdT (w : Wd) : List UInt8 := tx w.s
/-- A label's text. -/
def labelT (l : List Wd) : List UInt8 := joinT [32, 64] [43] (l.map wdT)

theorem jl_wds : ∀ l : List Wd, jl (l.map wdT) ≤ wdsWt l
  | [] => Nat.le_refl _
  | w :: r => by
    have := jl_wds r
    simp only [List.map_cons, jl, wdsWt, Wd.wt, wdT, tx_len]
    omega
theorem labelT_len (l : List Wd) : (labelT l).length ≤ wdsWt l := Nat.le_trans (joinT_len (by simp) (by simp) _) (jl_wds l)

/-- What stands behind a part's type. -/
def coarseT (p : Ph) : List UInt8 :=
  if p.ck = 1 then [32, 126, 102, 108, 111, 111, 114, 40] ++ putL p.cn ++ [41]
  else if p.ck = 2 then [32, 126, 102, 105, 114, 115, 116, 40] ++ putL p.cn ++ [41]
  else if p.ck = 3 then [32, 126, 99, 111, 117, 110, 116] else []
def wideT (p : Ph) : List UInt8 := if 0 < p.wide then [32, 35] ++ putL p.wide else []
def marksT (p : Ph) : List UInt8 := labelT p.label ++ wideT p ++ coarseT p ++ labelT p.cl

/-- A part's text, its type's being u. -/
def partT (tag : Bool) (p : Ph) (u : List UInt8) : List UInt8 :=
  tx p.name.s ++ (if p.bare = true then [] else (if tag = true then [40] ++ u ++ [41] else [58, 32] ++ u) ++ marksT p)

/-- A type's text, the first part's type's, and the parts', being u and l. -/
def headT (h : Hd) (u : List UInt8) (l : List (List UInt8)) : List UInt8 :=
  if h.kind = 1 then [98, 111, 111, 108]
  else if h.kind = 2 then [105, 110, 116, 40] ++ putL h.lo ++ [46, 46] ++ putL h.hi ++ [41]
  else if h.kind = 3 then [116, 101, 120, 116, 40] ++ putL h.most ++ [41]
  else if h.kind = 5 then [108, 105, 115, 116, 40] ++ u ++ [44, 32] ++ putL h.most ++ [41]
  else if h.kind = 6 then [111, 112, 116, 40] ++ u ++ [41]
  else if h.kind = 9 then [114, 101, 102, 40] ++ tx h.name.s ++ [41]
  else if h.kind = 8 then [117, 110, 105, 111, 110, 123] ++ joinT [] [44, 32] l ++ [125]
  else if h.kind = 7 then [114, 101, 99, 111, 114, 100, 123] ++ joinT [] [44, 32] l ++ [125]
  else [101, 110, 117, 109, 40] ++ joinT [] [44, 32] (h.names.map wdT) ++ [41]

mutual
def tyT : Ty → List UInt8
  | .mk h ps => headT h (firstT ps) (ptsT (decide (h.kind = 8)) ps)
def firstT : Pts → List UInt8
  | .nil => []
  | .cons _ t _ => tyT t
def ptsT (tag : Bool) : Pts → List (List UInt8)
  | .nil => []
  | .cons p t r => partT tag p (tyT t) :: ptsT tag r
end

/-- An int. -/
def I64 (z : Int) : Prop := -9223372036854775808 ≤ z ∧ z ≤ 9223372036854775807

mutual
/-- What a type must be for its text: its numbers are ints, a list's or an option's part is one, no field is bare. -/
def fineT : Ty → Prop
  | .mk h ps => I64 h.lo ∧ I64 h.hi ∧ I64 h.most ∧ (1 ≤ h.kind ∧ h.kind ≤ 9) ∧ (h.kind = 5 ∨ h.kind = 6 → ps.len = 1) ∧ fineP h.kind ps
def fineP (k : Int) : Pts → Prop
  | .nil => True
  | .cons p t r => I64 p.wide ∧ I64 p.cn ∧ (p.bare = true → k = 8) ∧ (p.bare = false → 0 ≤ p.wide ∧ fineT t) ∧ fineP k r
end

theorem coarseT_len {p : Ph} (h : I64 p.cn) : (coarseT p).length ≤ 30 := by
  have := putL_len h.1 h.2
  unfold coarseT
  split
  · simp only [List.length_append, List.length_cons, List.length_nil]; omega
  · split
    · simp only [List.length_append, List.length_cons, List.length_nil]; omega
    · split <;> simp
theorem wideT_len {p : Ph} (h : I64 p.wide) : (wideT p).length ≤ 23 := by
  have := putL_len h.1 h.2
  unfold wideT
  split
  · simp only [List.length_append, List.length_cons, List.length_nil]; omega
  · simp
theorem marksT_len {p : Ph} (h1 : I64 p.wide) (h2 : I64 p.cn) : (marksT p).length ≤ wdsWt p.label + wdsWt p.cl + 53 := by
  have e1 := labelT_len p.label
  have e2 := labelT_len p.cl
  have e3 := coarseT_len h2
  have e4 := wideT_len h1
  simp only [marksT, List.length_append]
  omega
theorem partT_len {p : Ph} {u : List UInt8} {tag : Bool} (h1 : I64 p.wide) (h2 : I64 p.cn) : (partT tag p u).length ≤ p.wt + (if p.bare = true then 0 else u.length) - 100 := by
  have := marksT_len h1 h2
  unfold partT
  simp only [Ph.wt, Wd.wt]
  split
  · simp only [List.length_append, List.length_nil, tx_len]; omega
  · split
    · simp only [List.length_append, List.length_cons, List.length_nil, tx_len]; omega
    · simp only [List.length_append, List.length_cons, List.length_nil, tx_len]; omega

theorem headT_len {h : Hd} {u : List UInt8} {l : List (List UInt8)} (h1 : I64 h.lo) (h2 : I64 h.hi) (h3 : I64 h.most) : (headT h u l).length + 100 ≤ h.wt + (if h.kind = 5 ∨ h.kind = 6 then u.length else 0) + (if h.kind = 7 ∨ h.kind = 8 then jl l else 0) := by
  have e1 := putL_len h1.1 h1.2
  have e2 := putL_len h2.1 h2.2
  have e3 := putL_len h3.1 h3.2
  have e4 := jl_wds h.names
  have e5 := joinT_len (f := []) (s := [44, 32]) (by simp) (by simp) (h.names.map wdT)
  have e6 := joinT_len (f := []) (s := [44, 32]) (by simp) (by simp) l
  unfold headT
  simp only [Hd.wt, Wd.wt]
  split
  · simp only [List.length_cons, List.length_nil]; omega
  · split
    · simp only [List.length_append, List.length_cons, List.length_nil]; omega
    · split
      · simp only [List.length_append, List.length_cons, List.length_nil]; omega
      · split
        · rename_i hk
          rw [if_pos (.inl hk)]
          simp only [List.length_append, List.length_cons, List.length_nil]; omega
        · split
          · rename_i hk
            rw [if_pos (.inr hk)]
            simp only [List.length_append, List.length_cons, List.length_nil]; omega
          · split
            · simp only [List.length_append, List.length_cons, List.length_nil, tx_len]; omega
            · split
              · rename_i hk
                rw [if_pos (c := h.kind = 7 ∨ h.kind = 8) (.inr hk)]
                simp only [List.length_append, List.length_cons, List.length_nil]; omega
              · split
                · rename_i hk
                  rw [if_pos (c := h.kind = 7 ∨ h.kind = 8) (.inl hk)]
                  simp only [List.length_append, List.length_cons, List.length_nil]; omega
                · simp only [List.length_append, List.length_cons, List.length_nil]; omega

mutual
theorem tyT_len : ∀ {t : Ty}, fineT t → (tyT t).length + 100 ≤ t.wt
  | .mk h ps, hf => by
    simp only [fineT] at hf
    obtain ⟨h1, h2, h3, h4, h5, h6⟩ := hf
    have e1 := headT_len (u := firstT ps) (l := ptsT (decide (h.kind = 8)) ps) h1 h2 h3
    have e2 := ptsT_len (tag := decide (h.kind = 8)) h6
    simp only [tyT, Ty.wt]
    by_cases hk : h.kind = 5 ∨ h.kind = 6
    · rw [if_pos hk, if_neg (by omega)] at e1
      have e3 : (firstT ps).length ≤ ps.wt := by
        match ps, h5 hk, h6 with
        | .cons p t r, _, h6 =>
          simp only [fineP] at h6
          have hb : p.bare = false := by
            cases hb : p.bare
            · rfl
            · have := h6.2.2.1 hb; omega
          have := tyT_len (h6.2.2.2.1 hb).2
          simp only [firstT, Pts.wt]
          omega
      omega
    · rw [if_neg hk] at e1
      split at e1 <;> omega
theorem ptsT_len {tag : Bool} {k : Int} : ∀ {ps : Pts}, fineP k ps → jl (ptsT tag ps) ≤ ps.wt
  | .nil, _ => Nat.le_refl _
  | .cons p t r, hf => by
    simp only [fineP] at hf
    obtain ⟨h1, h2, h3, h4, h5⟩ := hf
    have e1 := ptsT_len (tag := tag) h5
    have e2 := partT_len (tag := tag) (u := tyT t) h1 h2
    simp only [ptsT, jl, Pts.wt]
    have e4 : p.wt ≥ 256 := by simp only [Ph.wt]; omega
    cases hb : p.bare
    · have e3 := tyT_len (h4 hb).2
      rw [hb] at e2
      simp only [Bool.false_eq_true, if_false] at e2
      omega
    · rw [hb] at e2
      simp only [if_true] at e2
      omega
end
end Go.Proofs.Ytmphiikdhifhjaa
set_option maxRecDepth 100000
namespace Go.Proofs.Ytmphiikdhifhjaa
open Go Go.RowKit Dv Try

abbrev labSt (l : List Wd) (e : Nat) : St := ⟨[(3, ⟨[], .v (.string (ba (labelT (l.take e))))⟩), (4, ⟨[], .v (.int .i64 e)⟩), (0, ⟨[], .sl 2 (dWds l) none⟩)], [], []⟩

theorem labelT_snoc {l : List Wd} {e : Nat} {w : Wd} (h : l[e]? = some w) : labelT (l.take (e + 1)) = labelT (l.take e) ++ (if e = 0 then [32, 64] else [43]) ++ tx w.s := by
  have hlt := (List.getElem?_eq_some_iff.1 h).1
  rw [List.take_add_one, h]
  simp only [labelT, Option.toList_some, List.map_append, List.map_cons, List.map_nil]
  rw [joinT_snoc]
  congr 2
  simp only [List.length_map, List.length_take]
  by_cases h0 : e = 0
  · rw [if_pos h0, if_pos (by omega)]
  · rw [if_neg h0, if_neg (by omega)]

theorem wdsWt_take : ∀ (l : List Wd) (e : Nat), wdsWt (l.take e) ≤ wdsWt l
  | [], e => by simp
  | w :: r, 0 => by simp [wdsWt]
  | w :: r, e + 1 => by
    have := wdsWt_take r e
    simp only [List.take_succ_cons, wdsWt]; omega

theorem we_str {n m : Nat} {tk' : List TkE} {x y : ByteArray} (h : x = y) : We n m tk' (.v (.string x)) (.v (.string y)) := .inl ⟨by rw [h], rfl⟩

end Go.Proofs.Ytmphiikdhifhjaa
set_option maxRecDepth 100000
namespace Go.Proofs.Ytmphiikdhifhjaa
open Go Go.RowKit Dv Try


theorem joinT_take {f s : List UInt8} {l : List (List UInt8)} {e : Nat} {x : List UInt8} (h : l[e]? = some x) : joinT f s (l.take (e + 1)) = joinT f s (l.take e) ++ (if e = 0 then f else s) ++ x := by
  have hlt := (List.getElem?_eq_some_iff.1 h).1
  rw [List.take_add_one, h, Option.toList_some, joinT_snoc]
  congr 2
  simp only [List.length_take]
  by_cases h0 : e = 0
  · rw [if_pos h0, if_pos (by omega)]
  · rw [if_neg h0, if_neg (by omega)]

theorem ptsT_get {tag : Bool} : ∀ {ps : Pts} {e : Nat} {p : Ph} {t : Ty}, ps.toList[e]? = some (p, t) → (ptsT tag ps)[e]? = some (partT tag p (tyT t))
  | .nil, e, p, t, h => by simp [Pts.toList] at h
  | .cons q u r, 0, p, t, h => by
    simp only [Pts.toList, List.getElem?_cons_zero, Option.some.injEq, Prod.mk.injEq] at h
    obtain ⟨rfl, rfl⟩ := h
    simp [ptsT]
  | .cons q u r, e + 1, p, t, h => by
    simp only [Pts.toList, List.getElem?_cons_succ] at h
    simp only [ptsT, List.getElem?_cons_succ]
    exact ptsT_get h
theorem ptsT_length {tag : Bool} : ∀ ps : Pts, (ptsT tag ps).length = ps.len
  | .nil => rfl
  | .cons p t r => by simp [ptsT, Pts.len, ptsT_length r]

theorem fineP_get {k : Int} : ∀ {ps : Pts} {e : Nat} {p : Ph} {t : Ty}, fineP k ps → ps.toList[e]? = some (p, t) → I64 p.wide ∧ I64 p.cn ∧ (p.bare = true → k = 8) ∧ (p.bare = false → 0 ≤ p.wide ∧ fineT t)
  | .nil, e, p, t, _, h => by simp [Pts.toList] at h
  | .cons q u r, 0, p, t, hf, h => by
    simp only [Pts.toList, List.getElem?_cons_zero, Option.some.injEq, Prod.mk.injEq] at h
    obtain ⟨rfl, rfl⟩ := h
    simp only [fineP] at hf
    exact ⟨hf.1, hf.2.1, hf.2.2.1, hf.2.2.2.1⟩
  | .cons q u r, e + 1, p, t, hf, h => by
    simp only [Pts.toList, List.getElem?_cons_succ] at h
    simp only [fineP] at hf
    exact fineP_get hf.2.2.2.2 h

end Go.Proofs.Ytmphiikdhifhjaa
set_option maxRecDepth 100000
namespace Go.Proofs.Ytmphiikdhifhjaa
open Go Go.RowKit Dv Try

abbrev tyNSt (h : Hd) (ps : Pts) (e : Nat) : St :=
  ⟨[(1, ⟨[], .loc 0 0⟩), (3, ⟨[], .v (.string (ba ([101, 110, 117, 109, 40] ++ joinT [] [44, 32] ((h.names.map wdT).take e))))⟩), (4, ⟨[], .v (.string ⟨#[41]⟩)⟩), (5, ⟨[], .v (.int .i64 e)⟩)], [dTy (.mk h ps)], []⟩
abbrev tyPSt (h : Hd) (ps : Pts) (tag : Bool) (pre : List UInt8) (e : Nat) : St :=
  ⟨[(1, ⟨[], .loc 0 0⟩), (3, ⟨[], .v (.string (ba (pre ++ joinT [] [44, 32] ((ptsT tag ps).take e))))⟩), (4, ⟨[], .v (.string ⟨#[125]⟩)⟩), (6, ⟨[], .v (.int .i64 e)⟩)], [dTy (.mk h ps)], []⟩

end Go.Proofs.Ytmphiikdhifhjaa
set_option maxRecDepth 100000
namespace Go.Proofs
open Go.Shelf
def Try.lays156_ren : Go.Shelf.Ren := ⟨fun | 156 => 42 | 165 => 48 | 166 => 49 | 169 => 50 | 240 => 57 | 241 => 58 | 276 => 61 | 277 => 62 | n => n, fun | 31 => 76 | 9 => 9 | 3 => 3 | 4 => 4 | 0 => 0 | 20 => 20 | 72 => 85 | 76 => 89 | 70 => 83 | 37 => 75 | 75 => 88 | 127 => 97 | 164 => 102 | 5 => 5 | 80 => 91 | n => n, fun | n => n⟩
theorem Try.lays156 : Go.Proofs.Lays.n156 Try.prog Try.lays156_ren := {
  mixed := by kernel_rfl
  f156 := Try.func42.trans (congrArg some (by kernel_rfl))
  f165 := Try.func48.trans (congrArg some (by kernel_rfl))
  f166 := Try.func49.trans (congrArg some (by kernel_rfl))
  f169 := Try.func50.trans (congrArg some (by kernel_rfl))
  f240 := Try.func57.trans (congrArg some (by kernel_rfl))
  f241 := Try.func58.trans (congrArg some (by kernel_rfl))
  f276 := Try.func61.trans (congrArg some (by kernel_rfl))
  f277 := Try.func62.trans (congrArg some (by kernel_rfl))
  t0 := Try.underlying0
  a0 := Try.isAgg0
  z0 := Try.sizeOf0
  v0 := Try.zeroValue0
  t3 := Try.underlying3
  a3 := Try.isAgg3
  z3 := Try.sizeOf3
  v3 := Try.zeroValue3
  t4 := Try.underlying4
  a4 := Try.isAgg4
  z4 := Try.sizeOf4
  v4 := Try.zeroValue4
  t9 := Try.underlying9
  a9 := Try.isAgg9
  z9 := Try.sizeOf9
  v9 := Try.zeroValue9
  t20 := Try.underlying20
  a20 := Try.isAgg20
  z20 := Try.sizeOf20
  v20 := Try.zeroValue20
  t31 := Try.underlying76
  a31 := Try.isAgg76
  z31 := Try.sizeOf76
  v31 := Try.zeroValue76
  t37 := Try.underlying75
  a37 := Try.isAgg75
  z37 := Try.sizeOf75
  v37 := Try.zeroValue75
  t70 := Try.underlying83
  a70 := Try.isAgg83
  z70 := Try.sizeOf83
  v70 := Try.zeroValue83
  t72 := Try.underlying85
  a72 := Try.isAgg85
  z72 := Try.sizeOf85
  v72 := Try.zeroValue85
  t75 := Try.underlying88
  a75 := Try.isAgg88
  z75 := Try.sizeOf88
  v75 := Try.zeroValue88
  t76 := Try.underlying89
  a76 := Try.isAgg89
  z76 := Try.sizeOf89
  v76 := Try.zeroValue89
  t127 := Try.underlying97
  a127 := Try.isAgg97
  z127 := Try.sizeOf97
  v127 := Try.zeroValue97
  t164 := Try.underlying102
  a164 := Try.isAgg102
  z164 := Try.sizeOf102
  v164 := Try.zeroValue102 }
theorem Try.Builder_Extra_156 : Builder.Extra Try.prog Try.lays156_ren := {
  sizeBuilder := by kernel_rfl
  liesBuilder := by kernel_rfl
  t5 := Try.underlying5
  a5 := Try.isAgg5
  z5 := Try.sizeOf5
  v5 := Try.zeroValue5
  infoByte := by kernel_rfl
  cellsByte := by kernel_rfl
  sizeByte := by kernel_rfl
  neB5 := by decide }
end Go.Proofs
namespace Go.Proofs.Ytmphiikdhifhjaa
open Go Go.RowKit Dv Try

/-- A contract of data alone, off one of the library's. -/
theorem evp_below {P : Program} {f : FuncId} {args : List DV} {d : DV}
    (h : ∀ (E : En) (w : World) (vs : List Value), Env E [] w → RvL E args vs → Calls P f vs.toArray w fun e w' => ∃ v, e = .returned v ∧ Rv E d v ∧ Below w.heap.size w w') : EvP P f args d := by
  intro E w vs hE htk hv
  refine (h E w vs hE hv).mono ?_
  rintro e w' ⟨v, rfl, hr, hb⟩
  exact ⟨v, rfl, ⟨hb.os, hb.tape, hb.output, hb.size, fun k hk _ => hb.block k hk⟩, fun hf => (by cases hf), d, [], E, hE.keep hb.block, rfl, rfl, Nw.refl hE, hr, rfl⟩

def dStrs (l : List (List UInt8)) : List (List DV) := l.map fun x => [.v (.string (ba x))]

theorem dStrs_len (l : List (List UInt8)) : (dStrs l).length = l.length := by simp [dStrs]
theorem strs_arr {E : En} : ∀ {ls : List (List UInt8)} {arr : List Value}, RvL E (dStrs ls).flatten arr → arr = ls.map fun x => Value.string (ba x)
  | [], arr, h => by simpa [dStrs, RvL] using h
  | x :: r, arr, h => by
    simp only [dStrs, List.map_cons, List.flatten_cons, List.cons_append, List.nil_append, RvL] at h
    obtain ⟨v, s, rfl, h1, h2⟩ := h
    unfold Rv at h1
    rw [h1.1, strs_arr (ls := r) h2]
    rfl

theorem joinT_lib (s : List UInt8) : ∀ l : List (List UInt8), joinT [] s l = Lib.join l s
  | [] => rfl
  | x :: r => by
    rw [Lib.join_cons]
    simp [joinT, Lib.joinTail, List.flatMap]

theorem join_spec (ls : List (List UInt8)) (sep : ByteArray) (hN : ls.length ≤ 140737488355328) (hlen : (joinT [] (tx sep) ls).length ≤ 140737488355328) :
    EvP Try.prog 42 [.sl 1 (dStrs ls) none, .v (.string sep)] (.v (.string (ba (joinT [] (tx sep) ls)))) := by
  refine evp_below fun E w vs hE hv => ?_
  simp only [RvL] at hv
  obtain ⟨v1, s1, rfl, h1, v2, s2, rfl, h2, rfl⟩ := hv
  have h2 := rv_v_eq h2
  subst h2
  unfold Rv at h1
  obtain ⟨b, n, cap, rfl, ⟨rfl, hcap⟩, hr, _⟩ := h1
  rw [dStrs_len] at hcap
  rw [joinT_lib] at hlen ⊢
  have hd : (ls.map ba).map (·.data.toList) = ls := by
    rw [List.map_map]
    conv => rhs; rw [← List.map_id ls]
    rfl
  by_cases hne : ls = []
  · subst hne
    refine (Any.strings_Join_none Try.lays156 Try.Builder_Extra_156 b cap sep w).mono ?_
    rintro e w' ⟨rfl, rfl⟩
    exact ⟨_, rfl, rv_v rfl, Below.refl _ _⟩
  · have hne' : dStrs ls ≠ [] := by
      intro h0
      exact hne (List.eq_nil_of_length_eq_zero (by rw [← dStrs_len, h0]; rfl))
    obtain ⟨hok, hes⟩ := hr hne'
    obtain ⟨arr, ha1, ha2, ha3⟩ := hes.vals
    have harr := strs_arr ha1.1
    have hb := okA_eq hok
    have hcell : ∀ (j : Nat) x, (ls.map ba)[j]? = some x → w.cell? ⟨ab b, ao b + j, none⟩ = some (.string x) := by
      intro j x hx
      refine hE.sub _ _ (ha3 j _ ?_)
      rw [harr]
      rw [List.getElem?_map] at hx ⊢
      cases hl : ls[j]? with
      | none => rw [hl] at hx; cases hx
      | some y => rw [hl] at hx; simp only [Option.map_some, Option.some.injEq] at hx ⊢; rw [hx]
    have hbk : ab b < w.heap.size := by
      cases hl : ls with
      | nil => exact (hne hl).elim
      | cons y r => exact World.block_lt_of_cell? w _ (hcell 0 (ba y) (by rw [hl]; rfl))
    rw [hb, dStrs_len]
    have hJ := Any.strings_Join Try.lays156 Try.Builder_Extra_156 (ab b) (ao b) cap (ls.map ba) sep w hcell hbk (by simpa using hN) (by simpa using hcap) (by rw [hd]; exact hlen)
    rw [hd, List.length_map] at hJ
    refine hJ.mono ?_
    rintro e w' ⟨rfl, hbw⟩
    exact ⟨_, rfl, rv_v rfl, hbw⟩
end Go.Proofs.Ytmphiikdhifhjaa
set_option maxRecDepth 100000
namespace Go.Proofs.Ytmphiikdhifhjaa
open Go Go.RowKit Dv Try

theorem dStrs_snoc {L : List (List UInt8)} {e : Nat} {s : ByteArray} (h : L[e]? = some (tx s)) : dStrs (L.take e) ++ [[DV.v (.string s)]] = dStrs (L.take (e + 1)) := by
  rw [List.take_add_one, h]
  simp [dStrs, ba_tx]
theorem dStrs_snoc' {L : List (List UInt8)} {e : Nat} {x : List UInt8} (h : L[e]? = some x) : dStrs (L.take e) ++ [[DV.v (.string (ba x))]] = dStrs (L.take (e + 1)) := by
  rw [List.take_add_one, h]
  simp [dStrs]

theorem labelT_join (l : List Wd) (h : l ≠ []) : labelT l = [32, 64] ++ joinT [] [43] (l.map wdT) := by
  cases l with
  | nil => exact (h rfl).elim
  | cons x r => simp [labelT, joinT]

abbrev labPSt (l : List Wd) (n e : Nat) : St :=
  ⟨[(6, ⟨[], .sl 2 (dWds l) none⟩), (7, ⟨[], .v (.int .i64 (dWds l).length)⟩), (8, ⟨[], .v (.int .i64 e)⟩), (3, ⟨[], .sl 1 (dStrs ((l.map wdT).take e)) (some 0)⟩)], [], [⟨n, 9, 1⟩]⟩

theorem label_spec (l : List Wd) (hs : wdsWt l ≤ 1099511627776) : EvP Try.prog 51 [.sl 2 (dWds l) none] (.v (.string (ba (labelT l)))) := by
  have hl := wdsWt_len l
  have hj := joinT_len (f := []) (s := [43]) (by simp) (by simp) (l.map wdT)
  have hj2 := jl_wds l
  refine ev_go (P := Try.prog) tt tt_ok 5000 24 [.tmp 2] Try.func51 rfl Try.ntmps51 rfl (Nat.le_of_ble_eq_true rfl) (fun E9 w9 hn9 hm9 => ?_)
  refine loop_i (fun j st => ∃ e : Nat, st = labPSt l e e ∧ e ≤ l.length ∧ j = l.length - e) l.length (labPSt l 0 0) (weak_tok ⟨0, 9, 1⟩ rfl ⟨_, rfl⟩ rfl (by repeat' (first | exact rfl | exact we_rfl rfl | refine ⟨_, _, rfl, ?_, ?_⟩)) rfl rfl (by repeat' (first | exact trivial | exact we_rfl rfl | exact we_rfl rfl | exact we_tok (Nat.le_refl _) rfl | refine ⟨⟨_, rfl, ?_⟩, ?_⟩))) ⟨0, rfl, by omega, rfl⟩ ?_
  rintro j st ⟨e, rfl, he, rfl⟩
  refine br (fun h => ?_) (fun h => ?_)
  · have hlt : e < l.length := by simpa [dWds_len] using h
    obtain ⟨w, hw⟩ : ∃ w, l[e]? = some w := ⟨_, List.getElem?_eq_getElem hlt⟩
    have hw2 : (l.map wdT)[e]? = some (tx w.s) := by simp [hw, wdT]
    refine ⟨dWd w, ⟨by omega, dWds_get hw⟩, ?_⟩
    refine ⟨by simp [dStrs_len]; omega, ⟨by simp [dStrs_len, maxLen]; omega, by simp [dStrs_len]; omega⟩, ?_⟩
    refine ⟨labPSt l (e + 1) (e + 1), (weak_mk ⟨_, rfl⟩ (by repeat' (first | exact rfl | exact we_rfl rfl | refine ⟨_, _, rfl, ?_, ?_⟩)) rfl rfl rfl (by repeat' (first | exact trivial | exact we_rfl rfl | exact we_int (nxt hlt (by omega)) | exact we_sl (dStrs_snoc hw2) rfl | refine ⟨⟨_, rfl, ?_⟩, ?_⟩))), l.length - (e + 1), by omega, e + 1, rfl, by omega, rfl⟩
  · have hge : e = l.length := by
      have := h; simp [dWds_len] at this; omega
    have htk : (l.map wdT).take e = l.map wdT := List.take_of_length_le (by simp; omega)
    refine br (fun h0 => ?_) (fun h0 => ?_)
    · have h0 : l = [] := by
        have := h0
        rw [htk] at this
        simp [dStrs_len] at this
        exact this
      refine (congrArg (fun s => DV.v (.string s)) (ba_ext ?_) : _ = _)
      subst h0
      simp [labelT, joinT, tx_mk]
    · have h0 : l ≠ [] := by
        rintro rfl
        simp [dStrs] at h0
      rw [htk]
      refine call_p (enters_of Try.func42 (by decide +kernel) rfl) (join_spec (l.map wdT) (ba [43]) (by simp; omega) (by rw [tx_ba]; omega)) (by repeat' (first | exact rfl | exact trivial | exact Or.inr (Or.inl ⟨_, rfl⟩) | exact Or.inr ⟨_, rfl⟩ | exact Or.inl ⟨rfl, rfl⟩ | exact Or.inl rfl | refine Or.inr ⟨_, _, rfl, Nat.zero_le _, rfl, ?_⟩ | refine ⟨_, _, rfl, ?_, ?_⟩ | refine ⟨_, rfl, ?_⟩ | refine Or.inr (Or.inr (Or.inr ⟨_, _, rfl, ?_⟩)) | exact Or.inl rfl | refine Or.inr ?_)) rfl ?_
      refine ⟨by rw [tx_ba]; (simp only [sz_app, sz_ba, List.length_cons, List.length_nil]; omega), ?_⟩
      refine (congrArg (fun s => DV.v (.string s)) (ba_ext ?_) : _ = _)
      rw [labelT_join l h0]
      simp [tx_app, tx_mk]

theorem name_spec (w : Wd) : EvP Try.prog 32 [.agg (dWd w)] (.v (.string (ba (wdT w)))) := by
  refine ev_go (P := Try.prog) tt tt_ok 5000 5 [.tmp 2] Try.func32 rfl Try.ntmps32 rfl (Nat.le_of_ble_eq_true rfl) (fun E9 w9 hn9 hm9 => ?_)
  refine (congrArg (fun s => DV.v (.string s)) ?_ : _ = _)
  exact (ba_tx w.s).symm

theorem marks_spec (p : Ph) (t : Ty) (hp : p.wt ≤ 1099511627776) (hw : I64 p.wide) (hc : I64 p.cn) (h0 : 0 ≤ p.wide) :
    EvP Try.prog 43 [.agg (dPh p (dTy t))] (.v (.string (ba (marksT p)))) := by
  obtain ⟨⟨ns, na⟩, bare, label, wide, ck, cn, ca, cl⟩ := p
  simp only [Ph.wt, Wd.wt] at hp
  simp only at hw hc h0
  have l1 := labelT_len label
  have l2 := labelT_len cl
  have l3 := putD_size hw.1 hw.2
  have l4 := putD_size hc.1 hc.2
  obtain ⟨th, tps⟩ := t
  have hck : ck = 1 ∨ ck = 2 ∨ ck = 3 ∨ (ck ≠ 1 ∧ ck ≠ 2 ∧ ck ≠ 3) := by omega
  rcases hck with rfl | rfl | rfl | ⟨k1, k2, k3⟩
  · refine ev_go (P := Try.prog) tt tt_ok 5000 48 [.tmp 2] Try.func43 rfl Try.ntmps43 rfl (Nat.le_of_ble_eq_true rfl) (fun E9 w9 hn9 hm9 => ?_)
    refine call_p (enters_of Try.func51 (by decide +kernel) rfl) (label_spec label (by omega)) (by repeat' (first | exact rfl | exact trivial | exact Or.inr (Or.inl ⟨_, rfl⟩) | exact Or.inr ⟨_, rfl⟩ | exact Or.inl ⟨rfl, rfl⟩ | exact Or.inl rfl | refine Or.inr ⟨_, _, rfl, Nat.zero_le _, rfl, ?_⟩ | refine ⟨_, _, rfl, ?_, ?_⟩ | refine ⟨_, rfl, ?_⟩ | refine Or.inr (Or.inr (Or.inr ⟨_, _, rfl, ?_⟩)) | exact Or.inl rfl | refine Or.inr ?_)) rfl ?_
    refine br (fun hwd => ?_) (fun hwd => ?_)
    · have hwd : 0 < wide := by
        have := hwd
        simp at this
        omega
      refine call_p (enters_of Try.func30 (by decide +kernel) rfl) (put_spec wide hw.1 hw.2) (by repeat' (first | exact rfl | exact trivial | exact Or.inr (Or.inl ⟨_, rfl⟩) | exact Or.inr ⟨_, rfl⟩ | exact Or.inl ⟨rfl, rfl⟩ | exact Or.inl rfl | refine Or.inr ⟨_, _, rfl, Nat.zero_le _, rfl, ?_⟩ | refine ⟨_, _, rfl, ?_, ?_⟩ | refine ⟨_, rfl, ?_⟩ | refine Or.inr (Or.inr (Or.inr ⟨_, _, rfl, ?_⟩)) | exact Or.inl rfl | refine Or.inr ?_)) rfl ?_
      refine ⟨by (simp only [sz_app, sz_ba, List.length_cons, List.length_nil]; omega), ?_⟩
      refine ⟨by (simp only [sz_app, sz_ba, List.length_cons, List.length_nil]; omega), ?_⟩
      refine call_p (enters_of Try.func30 (by decide +kernel) rfl) (put_spec cn hc.1 hc.2) (by repeat' (first | exact rfl | exact trivial | exact Or.inr (Or.inl ⟨_, rfl⟩) | exact Or.inr ⟨_, rfl⟩ | exact Or.inl ⟨rfl, rfl⟩ | exact Or.inl rfl | refine Or.inr ⟨_, _, rfl, Nat.zero_le _, rfl, ?_⟩ | refine ⟨_, _, rfl, ?_, ?_⟩ | refine ⟨_, rfl, ?_⟩ | refine Or.inr (Or.inr (Or.inr ⟨_, _, rfl, ?_⟩)) | exact Or.inl rfl | refine Or.inr ?_)) rfl ?_
      refine ⟨by (simp only [sz_app, sz_ba, List.length_cons, List.length_nil]; omega), ?_⟩
      refine ⟨by (simp only [sz_app, sz_ba, List.length_cons, List.length_nil]; omega), ?_⟩
      refine ⟨by (simp only [sz_app, sz_ba, List.length_cons, List.length_nil]; omega), ?_⟩
      refine ⟨by (simp only [sz_app, sz_ba, List.length_cons, List.length_nil]; omega), ?_⟩
      refine call_p (enters_of Try.func51 (by decide +kernel) rfl) (label_spec cl (by omega)) (by repeat' (first | exact rfl | exact trivial | exact Or.inr (Or.inl ⟨_, rfl⟩) | exact Or.inr ⟨_, rfl⟩ | exact Or.inl ⟨rfl, rfl⟩ | exact Or.inl rfl | refine Or.inr ⟨_, _, rfl, Nat.zero_le _, rfl, ?_⟩ | refine ⟨_, _, rfl, ?_, ?_⟩ | refine ⟨_, rfl, ?_⟩ | refine Or.inr (Or.inr (Or.inr ⟨_, _, rfl, ?_⟩)) | exact Or.inl rfl | refine Or.inr ?_)) rfl ?_
      refine ⟨by (simp only [sz_app, sz_ba, List.length_cons, List.length_nil]; omega), ?_⟩
      refine (congrArg (fun s => DV.v (.string s)) (ba_ext ?_) : _ = _)
      simp [marksT, wideT, coarseT, tx_app, tx_mk, tx_putD, hwd]
    · have hwd : ¬ 0 < wide := by
        have := hwd
        simp at this
        omega
      refine call_p (enters_of Try.func30 (by decide +kernel) rfl) (put_spec cn hc.1 hc.2) (by repeat' (first | exact rfl | exact trivial | exact Or.inr (Or.inl ⟨_, rfl⟩) | exact Or.inr ⟨_, rfl⟩ | exact Or.inl ⟨rfl, rfl⟩ | exact Or.inl rfl | refine Or.inr ⟨_, _, rfl, Nat.zero_le _, rfl, ?_⟩ | refine ⟨_, _, rfl, ?_, ?_⟩ | refine ⟨_, rfl, ?_⟩ | refine Or.inr (Or.inr (Or.inr ⟨_, _, rfl, ?_⟩)) | exact Or.inl rfl | refine Or.inr ?_)) rfl ?_
      refine ⟨by (simp only [sz_app, sz_ba, List.length_cons, List.length_nil]; omega), ?_⟩
      refine ⟨by (simp only [sz_app, sz_ba, List.length_cons, List.length_nil]; omega), ?_⟩
      refine ⟨by (simp only [sz_app, sz_ba, List.length_cons, List.length_nil]; omega), ?_⟩
      refine ⟨by (simp only [sz_app, sz_ba, List.length_cons, List.length_nil]; omega), ?_⟩
      refine call_p (enters_of Try.func51 (by decide +kernel) rfl) (label_spec cl (by omega)) (by repeat' (first | exact rfl | exact trivial | exact Or.inr (Or.inl ⟨_, rfl⟩) | exact Or.inr ⟨_, rfl⟩ | exact Or.inl ⟨rfl, rfl⟩ | exact Or.inl rfl | refine Or.inr ⟨_, _, rfl, Nat.zero_le _, rfl, ?_⟩ | refine ⟨_, _, rfl, ?_, ?_⟩ | refine ⟨_, rfl, ?_⟩ | refine Or.inr (Or.inr (Or.inr ⟨_, _, rfl, ?_⟩)) | exact Or.inl rfl | refine Or.inr ?_)) rfl ?_
      refine ⟨by (simp only [sz_app, sz_ba, List.length_cons, List.length_nil]; omega), ?_⟩
      refine (congrArg (fun s => DV.v (.string s)) (ba_ext ?_) : _ = _)
      simp [marksT, wideT, coarseT, tx_app, tx_mk, tx_putD, hwd]
  · refine ev_go (P := Try.prog) tt tt_ok 5000 48 [.tmp 2] Try.func43 rfl Try.ntmps43 rfl (Nat.le_of_ble_eq_true rfl) (fun E9 w9 hn9 hm9 => ?_)
    refine call_p (enters_of Try.func51 (by decide +kernel) rfl) (label_spec label (by omega)) (by repeat' (first | exact rfl | exact trivial | exact Or.inr (Or.inl ⟨_, rfl⟩) | exact Or.inr ⟨_, rfl⟩ | exact Or.inl ⟨rfl, rfl⟩ | exact Or.inl rfl | refine Or.inr ⟨_, _, rfl, Nat.zero_le _, rfl, ?_⟩ | refine ⟨_, _, rfl, ?_, ?_⟩ | refine ⟨_, rfl, ?_⟩ | refine Or.inr (Or.inr (Or.inr ⟨_, _, rfl, ?_⟩)) | exact Or.inl rfl | refine Or.inr ?_)) rfl ?_
    refine br (fun hwd => ?_) (fun hwd => ?_)
    · have hwd : 0 < wide := by
        have := hwd
        simp at this
        omega
      refine call_p (enters_of Try.func30 (by decide +kernel) rfl) (put_spec wide hw.1 hw.2) (by repeat' (first | exact rfl | exact trivial | exact Or.inr (Or.inl ⟨_, rfl⟩) | exact Or.inr ⟨_, rfl⟩ | exact Or.inl ⟨rfl, rfl⟩ | exact Or.inl rfl | refine Or.inr ⟨_, _, rfl, Nat.zero_le _, rfl, ?_⟩ | refine ⟨_, _, rfl, ?_, ?_⟩ | refine ⟨_, rfl, ?_⟩ | refine Or.inr (Or.inr (Or.inr ⟨_, _, rfl, ?_⟩)) | exact Or.inl rfl | refine Or.inr ?_)) rfl ?_
      refine ⟨by (simp only [sz_app, sz_ba, List.length_cons, List.length_nil]; omega), ?_⟩
      refine ⟨by (simp only [sz_app, sz_ba, List.length_cons, List.length_nil]; omega), ?_⟩
      refine call_p (enters_of Try.func30 (by decide +kernel) rfl) (put_spec cn hc.1 hc.2) (by repeat' (first | exact rfl | exact trivial | exact Or.inr (Or.inl ⟨_, rfl⟩) | exact Or.inr ⟨_, rfl⟩ | exact Or.inl ⟨rfl, rfl⟩ | exact Or.inl rfl | refine Or.inr ⟨_, _, rfl, Nat.zero_le _, rfl, ?_⟩ | refine ⟨_, _, rfl, ?_, ?_⟩ | refine ⟨_, rfl, ?_⟩ | refine Or.inr (Or.inr (Or.inr ⟨_, _, rfl, ?_⟩)) | exact Or.inl rfl | refine Or.inr ?_)) rfl ?_
      refine ⟨by (simp only [sz_app, sz_ba, List.length_cons, List.length_nil]; omega), ?_⟩
      refine ⟨by (simp only [sz_app, sz_ba, List.length_cons, List.length_nil]; omega), ?_⟩
      refine ⟨by (simp only [sz_app, sz_ba, List.length_cons, List.length_nil]; omega), ?_⟩
      refine ⟨by (simp only [sz_app, sz_ba, List.length_cons, List.length_nil]; omega), ?_⟩
      refine call_p (enters_of Try.func51 (by decide +kernel) rfl) (label_spec cl (by omega)) (by repeat' (first | exact rfl | exact trivial | exact Or.inr (Or.inl ⟨_, rfl⟩) | exact Or.inr ⟨_, rfl⟩ | exact Or.inl ⟨rfl, rfl⟩ | exact Or.inl rfl | refine Or.inr ⟨_, _, rfl, Nat.zero_le _, rfl, ?_⟩ | refine ⟨_, _, rfl, ?_, ?_⟩ | refine ⟨_, rfl, ?_⟩ | refine Or.inr (Or.inr (Or.inr ⟨_, _, rfl, ?_⟩)) | exact Or.inl rfl | refine Or.inr ?_)) rfl ?_
      refine ⟨by (simp only [sz_app, sz_ba, List.length_cons, List.length_nil]; omega), ?_⟩
      refine (congrArg (fun s => DV.v (.string s)) (ba_ext ?_) : _ = _)
      simp [marksT, wideT, coarseT, tx_app, tx_mk, tx_putD, hwd]
    · have hwd : ¬ 0 < wide := by
        have := hwd
        simp at this
        omega
      refine call_p (enters_of Try.func30 (by decide +kernel) rfl) (put_spec cn hc.1 hc.2) (by repeat' (first | exact rfl | exact trivial | exact Or.inr (Or.inl ⟨_, rfl⟩) | exact Or.inr ⟨_, rfl⟩ | exact Or.inl ⟨rfl, rfl⟩ | exact Or.inl rfl | refine Or.inr ⟨_, _, rfl, Nat.zero_le _, rfl, ?_⟩ | refine ⟨_, _, rfl, ?_, ?_⟩ | refine ⟨_, rfl, ?_⟩ | refine Or.inr (Or.inr (Or.inr ⟨_, _, rfl, ?_⟩)) | exact Or.inl rfl | refine Or.inr ?_)) rfl ?_
      refine ⟨by (simp only [sz_app, sz_ba, List.length_cons, List.length_nil]; omega), ?_⟩
      refine ⟨by (simp only [sz_app, sz_ba, List.length_cons, List.length_nil]; omega), ?_⟩
      refine ⟨by (simp only [sz_app, sz_ba, List.length_cons, List.length_nil]; omega), ?_⟩
      refine ⟨by (simp only [sz_app, sz_ba, List.length_cons, List.length_nil]; omega), ?_⟩
      refine call_p (enters_of Try.func51 (by decide +kernel) rfl) (label_spec cl (by omega)) (by repeat' (first | exact rfl | exact trivial | exact Or.inr (Or.inl ⟨_, rfl⟩) | exact Or.inr ⟨_, rfl⟩ | exact Or.inl ⟨rfl, rfl⟩ | exact Or.inl rfl | refine Or.inr ⟨_, _, rfl, Nat.zero_le _, rfl, ?_⟩ | refine ⟨_, _, rfl, ?_, ?_⟩ | refine ⟨_, rfl, ?_⟩ | refine Or.inr (Or.inr (Or.inr ⟨_, _, rfl, ?_⟩)) | exact Or.inl rfl | refine Or.inr ?_)) rfl ?_
      refine ⟨by (simp only [sz_app, sz_ba, List.length_cons, List.length_nil]; omega), ?_⟩
      refine (congrArg (fun s => DV.v (.string s)) (ba_ext ?_) : _ = _)
      simp [marksT, wideT, coarseT, tx_app, tx_mk, tx_putD, hwd]
  · refine ev_go (P := Try.prog) tt tt_ok 5000 48 [.tmp 2] Try.func43 rfl Try.ntmps43 rfl (Nat.le_of_ble_eq_true rfl) (fun E9 w9 hn9 hm9 => ?_)
    refine call_p (enters_of Try.func51 (by decide +kernel) rfl) (label_spec label (by omega)) (by repeat' (first | exact rfl | exact trivial | exact Or.inr (Or.inl ⟨_, rfl⟩) | exact Or.inr ⟨_, rfl⟩ | exact Or.inl ⟨rfl, rfl⟩ | exact Or.inl rfl | refine Or.inr ⟨_, _, rfl, Nat.zero_le _, rfl, ?_⟩ | refine ⟨_, _, rfl, ?_, ?_⟩ | refine ⟨_, rfl, ?_⟩ | refine Or.inr (Or.inr (Or.inr ⟨_, _, rfl, ?_⟩)) | exact Or.inl rfl | refine Or.inr ?_)) rfl ?_
    refine br (fun hwd => ?_) (fun hwd => ?_)
    · have hwd : 0 < wide := by
        have := hwd
        simp at this
        omega
      refine call_p (enters_of Try.func30 (by decide +kernel) rfl) (put_spec wide hw.1 hw.2) (by repeat' (first | exact rfl | exact trivial | exact Or.inr (Or.inl ⟨_, rfl⟩) | exact Or.inr ⟨_, rfl⟩ | exact Or.inl ⟨rfl, rfl⟩ | exact Or.inl rfl | refine Or.inr ⟨_, _, rfl, Nat.zero_le _, rfl, ?_⟩ | refine ⟨_, _, rfl, ?_, ?_⟩ | refine ⟨_, rfl, ?_⟩ | refine Or.inr (Or.inr (Or.inr ⟨_, _, rfl, ?_⟩)) | exact Or.inl rfl | refine Or.inr ?_)) rfl ?_
      refine ⟨by (simp only [sz_app, sz_ba, List.length_cons, List.length_nil]; omega), ?_⟩
      refine ⟨by (simp only [sz_app, sz_ba, List.length_cons, List.length_nil]; omega), ?_⟩
      refine call_p (enters_of Try.func30 (by decide +kernel) rfl) (put_spec cn hc.1 hc.2) (by repeat' (first | exact rfl | exact trivial | exact Or.inr (Or.inl ⟨_, rfl⟩) | exact Or.inr ⟨_, rfl⟩ | exact Or.inl ⟨rfl, rfl⟩ | exact Or.inl rfl | refine Or.inr ⟨_, _, rfl, Nat.zero_le _, rfl, ?_⟩ | refine ⟨_, _, rfl, ?_, ?_⟩ | refine ⟨_, rfl, ?_⟩ | refine Or.inr (Or.inr (Or.inr ⟨_, _, rfl, ?_⟩)) | exact Or.inl rfl | refine Or.inr ?_)) rfl ?_
      refine ⟨by (simp only [sz_app, sz_ba, List.length_cons, List.length_nil]; omega), ?_⟩
      refine ⟨by (simp only [sz_app, sz_ba, List.length_cons, List.length_nil]; omega), ?_⟩
      refine ⟨by (simp only [sz_app, sz_ba, List.length_cons, List.length_nil]; omega), ?_⟩
      refine call_p (enters_of Try.func51 (by decide +kernel) rfl) (label_spec cl (by omega)) (by repeat' (first | exact rfl | exact trivial | exact Or.inr (Or.inl ⟨_, rfl⟩) | exact Or.inr ⟨_, rfl⟩ | exact Or.inl ⟨rfl, rfl⟩ | exact Or.inl rfl | refine Or.inr ⟨_, _, rfl, Nat.zero_le _, rfl, ?_⟩ | refine ⟨_, _, rfl, ?_, ?_⟩ | refine ⟨_, rfl, ?_⟩ | refine Or.inr (Or.inr (Or.inr ⟨_, _, rfl, ?_⟩)) | exact Or.inl rfl | refine Or.inr ?_)) rfl ?_
      refine ⟨by (simp only [sz_app, sz_ba, List.length_cons, List.length_nil]; omega), ?_⟩
      refine (congrArg (fun s => DV.v (.string s)) (ba_ext ?_) : _ = _)
      simp [marksT, wideT, coarseT, tx_app, tx_mk, tx_putD, hwd]
    · have hwd : ¬ 0 < wide := by
        have := hwd
        simp at this
        omega
      refine call_p (enters_of Try.func30 (by decide +kernel) rfl) (put_spec cn hc.1 hc.2) (by repeat' (first | exact rfl | exact trivial | exact Or.inr (Or.inl ⟨_, rfl⟩) | exact Or.inr ⟨_, rfl⟩ | exact Or.inl ⟨rfl, rfl⟩ | exact Or.inl rfl | refine Or.inr ⟨_, _, rfl, Nat.zero_le _, rfl, ?_⟩ | refine ⟨_, _, rfl, ?_, ?_⟩ | refine ⟨_, rfl, ?_⟩ | refine Or.inr (Or.inr (Or.inr ⟨_, _, rfl, ?_⟩)) | exact Or.inl rfl | refine Or.inr ?_)) rfl ?_
      refine ⟨by (simp only [sz_app, sz_ba, List.length_cons, List.length_nil]; omega), ?_⟩
      refine ⟨by (simp only [sz_app, sz_ba, List.length_cons, List.length_nil]; omega), ?_⟩
      refine ⟨by (simp only [sz_app, sz_ba, List.length_cons, List.length_nil]; omega), ?_⟩
      refine call_p (enters_of Try.func51 (by decide +kernel) rfl) (label_spec cl (by omega)) (by repeat' (first | exact rfl | exact trivial | exact Or.inr (Or.inl ⟨_, rfl⟩) | exact Or.inr ⟨_, rfl⟩ | exact Or.inl ⟨rfl, rfl⟩ | exact Or.inl rfl | refine Or.inr ⟨_, _, rfl, Nat.zero_le _, rfl, ?_⟩ | refine ⟨_, _, rfl, ?_, ?_⟩ | refine ⟨_, rfl, ?_⟩ | refine Or.inr (Or.inr (Or.inr ⟨_, _, rfl, ?_⟩)) | exact Or.inl rfl | refine Or.inr ?_)) rfl ?_
      refine ⟨by (simp only [sz_app, sz_ba, List.length_cons, List.length_nil]; omega), ?_⟩
      refine (congrArg (fun s => DV.v (.string s)) (ba_ext ?_) : _ = _)
      simp [marksT, wideT, coarseT, tx_app, tx_mk, tx_putD, hwd]
  · refine ev_go (P := Try.prog) tt tt_ok 5000 48 [.tmp 2] Try.func43 rfl Try.ntmps43 rfl (Nat.le_of_ble_eq_true rfl) (fun E9 w9 hn9 hm9 => ?_)
    refine call_p (enters_of Try.func51 (by decide +kernel) rfl) (label_spec label (by omega)) (by repeat' (first | exact rfl | exact trivial | exact Or.inr (Or.inl ⟨_, rfl⟩) | exact Or.inr ⟨_, rfl⟩ | exact Or.inl ⟨rfl, rfl⟩ | exact Or.inl rfl | refine Or.inr ⟨_, _, rfl, Nat.zero_le _, rfl, ?_⟩ | refine ⟨_, _, rfl, ?_, ?_⟩ | refine ⟨_, rfl, ?_⟩ | refine Or.inr (Or.inr (Or.inr ⟨_, _, rfl, ?_⟩)) | exact Or.inl rfl | refine Or.inr ?_)) rfl ?_
    refine br (fun hwd => ?_) (fun hwd => ?_)
    · have hwd : 0 < wide := by
        have := hwd
        simp at this
        omega
      refine call_p (enters_of Try.func30 (by decide +kernel) rfl) (put_spec wide hw.1 hw.2) (by repeat' (first | exact rfl | exact trivial | exact Or.inr (Or.inl ⟨_, rfl⟩) | exact Or.inr ⟨_, rfl⟩ | exact Or.inl ⟨rfl, rfl⟩ | exact Or.inl rfl | refine Or.inr ⟨_, _, rfl, Nat.zero_le _, rfl, ?_⟩ | refine ⟨_, _, rfl, ?_, ?_⟩ | refine ⟨_, rfl, ?_⟩ | refine Or.inr (Or.inr (Or.inr ⟨_, _, rfl, ?_⟩)) | exact Or.inl rfl | refine Or.inr ?_)) rfl ?_
      refine ⟨by (simp only [sz_app, sz_ba, List.length_cons, List.length_nil]; omega), ?_⟩
      refine ⟨by (simp only [sz_app, sz_ba, List.length_cons, List.length_nil]; omega), ?_⟩
      refine call_p (enters_of Try.func30 (by decide +kernel) rfl) (put_spec cn hc.1 hc.2) (by repeat' (first | exact rfl | exact trivial | exact Or.inr (Or.inl ⟨_, rfl⟩) | exact Or.inr ⟨_, rfl⟩ | exact Or.inl ⟨rfl, rfl⟩ | exact Or.inl rfl | refine Or.inr ⟨_, _, rfl, Nat.zero_le _, rfl, ?_⟩ | refine ⟨_, _, rfl, ?_, ?_⟩ | refine ⟨_, rfl, ?_⟩ | refine Or.inr (Or.inr (Or.inr ⟨_, _, rfl, ?_⟩)) | exact Or.inl rfl | refine Or.inr ?_)) rfl ?_
      refine ⟨by (simp only [sz_app, sz_ba, List.length_cons, List.length_nil]; omega), ?_⟩
      refine ⟨by (simp only [sz_app, sz_ba, List.length_cons, List.length_nil]; omega), ?_⟩
      refine br (fun h => absurd (of_decide_eq_true h) k1) (fun _ => ?_)
      refine br (fun h => absurd (of_decide_eq_true h) k2) (fun _ => ?_)
      refine br (fun h => absurd (of_decide_eq_true h) k3) (fun _ => ?_)
      refine call_p (enters_of Try.func51 (by decide +kernel) rfl) (label_spec cl (by omega)) (by repeat' (first | exact rfl | exact trivial | exact Or.inr (Or.inl ⟨_, rfl⟩) | exact Or.inr ⟨_, rfl⟩ | exact Or.inl ⟨rfl, rfl⟩ | exact Or.inl rfl | refine Or.inr ⟨_, _, rfl, Nat.zero_le _, rfl, ?_⟩ | refine ⟨_, _, rfl, ?_, ?_⟩ | refine ⟨_, rfl, ?_⟩ | refine Or.inr (Or.inr (Or.inr ⟨_, _, rfl, ?_⟩)) | exact Or.inl rfl | refine Or.inr ?_)) rfl ?_
      refine ⟨by (simp only [sz_app, sz_ba, List.length_cons, List.length_nil]; omega), ?_⟩
      refine (congrArg (fun s => DV.v (.string s)) (ba_ext ?_) : _ = _)
      simp [marksT, wideT, coarseT, tx_app, tx_mk, tx_putD, hwd, k1, k2, k3]
    · have hwd : ¬ 0 < wide := by
        have := hwd
        simp at this
        omega
      refine call_p (enters_of Try.func30 (by decide +kernel) rfl) (put_spec cn hc.1 hc.2) (by repeat' (first | exact rfl | exact trivial | exact Or.inr (Or.inl ⟨_, rfl⟩) | exact Or.inr ⟨_, rfl⟩ | exact Or.inl ⟨rfl, rfl⟩ | exact Or.inl rfl | refine Or.inr ⟨_, _, rfl, Nat.zero_le _, rfl, ?_⟩ | refine ⟨_, _, rfl, ?_, ?_⟩ | refine ⟨_, rfl, ?_⟩ | refine Or.inr (Or.inr (Or.inr ⟨_, _, rfl, ?_⟩)) | exact Or.inl rfl | refine Or.inr ?_)) rfl ?_
      refine ⟨by (simp only [sz_app, sz_ba, List.length_cons, List.length_nil]; omega), ?_⟩
      refine ⟨by (simp only [sz_app, sz_ba, List.length_cons, List.length_nil]; omega), ?_⟩
      refine br (fun h => absurd (of_decide_eq_true h) k1) (fun _ => ?_)
      refine br (fun h => absurd (of_decide_eq_true h) k2) (fun _ => ?_)
      refine br (fun h => absurd (of_decide_eq_true h) k3) (fun _ => ?_)
      refine call_p (enters_of Try.func51 (by decide +kernel) rfl) (label_spec cl (by omega)) (by repeat' (first | exact rfl | exact trivial | exact Or.inr (Or.inl ⟨_, rfl⟩) | exact Or.inr ⟨_, rfl⟩ | exact Or.inl ⟨rfl, rfl⟩ | exact Or.inl rfl | refine Or.inr ⟨_, _, rfl, Nat.zero_le _, rfl, ?_⟩ | refine ⟨_, _, rfl, ?_, ?_⟩ | refine ⟨_, rfl, ?_⟩ | refine Or.inr (Or.inr (Or.inr ⟨_, _, rfl, ?_⟩)) | exact Or.inl rfl | refine Or.inr ?_)) rfl ?_
      refine ⟨by (simp only [sz_app, sz_ba, List.length_cons, List.length_nil]; omega), ?_⟩
      refine (congrArg (fun s => DV.v (.string s)) (ba_ext ?_) : _ = _)
      simp [marksT, wideT, coarseT, tx_app, tx_mk, tx_putD, hwd, k1, k2, k3]

abbrev listSt (d : Nat) (es : List (List DV)) (g : Nat) (L : List (List UInt8)) (n e : Nat) : St :=
  ⟨[(8, ⟨[], .sl d es none⟩), (9, ⟨[], .v (.int .i64 es.length)⟩), (10, ⟨[], .v (.int .i64 e)⟩), (1, ⟨[], .fn g [] []⟩), (5, ⟨[], .sl 1 (dStrs (L.take e)) (some 0)⟩)], [], [⟨n, 9, 1⟩]⟩

theorem listW_spec (l : List Wd) (hs : wdsWt l ≤ 1099511627776) : EvP Try.prog 31 [.sl 2 (dWds l) none, .fn 32 [] []] (.v (.string (ba (joinT [] [44, 32] (l.map wdT))))) := by
  have hl := wdsWt_len l
  have hj := joinT_len (f := []) (s := [44, 32]) (by simp) (by simp) (l.map wdT)
  have hj2 := jl_wds l
  refine ev_go (P := Try.prog) tt tt_ok 5000 23 [.tmp 4] Try.func31 rfl Try.ntmps31 rfl (Nat.le_of_ble_eq_true rfl) (fun E9 w9 hn9 hm9 => ?_)
  refine loop_i (fun j st => ∃ e : Nat, st = listSt 2 (dWds l) 32 (l.map wdT) e e ∧ e ≤ l.length ∧ j = l.length - e) l.length (listSt 2 (dWds l) 32 (l.map wdT) 0 0) (weak_tok ⟨0, 9, 1⟩ rfl ⟨_, rfl⟩ rfl (by repeat' (first | exact rfl | exact we_rfl rfl | refine ⟨_, _, rfl, ?_, ?_⟩)) rfl rfl (by repeat' (first | exact trivial | exact we_rfl rfl | exact we_rfl rfl | exact we_tok (Nat.le_refl _) rfl | refine ⟨⟨_, rfl, ?_⟩, ?_⟩))) ⟨0, rfl, by omega, rfl⟩ ?_
  rintro j st ⟨e, rfl, he, rfl⟩
  refine br (fun h => ?_) (fun h => ?_)
  · have hlt : e < l.length := by simpa [dWds_len] using h
    obtain ⟨w, hw⟩ : ∃ w, l[e]? = some w := ⟨_, List.getElem?_eq_getElem hlt⟩
    have hw2 : (l.map wdT)[e]? = some (wdT w) := by simp [hw]
    refine ⟨dWd w, ⟨by omega, dWds_get hw⟩, ?_⟩
    refine call_p (enters_of Try.func32 (by decide +kernel) rfl) (name_spec w) (by repeat' (first | exact rfl | exact trivial | exact Or.inr (Or.inl ⟨_, rfl⟩) | exact Or.inr ⟨_, rfl⟩ | exact Or.inl ⟨rfl, rfl⟩ | exact Or.inl rfl | refine Or.inr ⟨_, _, rfl, Nat.zero_le _, rfl, ?_⟩ | refine ⟨_, _, rfl, ?_, ?_⟩ | refine ⟨_, rfl, ?_⟩ | refine Or.inr (Or.inr (Or.inr ⟨_, _, rfl, ?_⟩)) | exact Or.inl rfl | refine Or.inr ?_)) rfl ?_
    refine ⟨by simp [dStrs_len]; omega, ⟨by simp [dStrs_len, maxLen]; omega, by simp [dStrs_len]; omega⟩, ?_⟩
    refine ⟨listSt 2 (dWds l) 32 (l.map wdT) (e + 1) (e + 1), (weak_mk ⟨_, rfl⟩ (by repeat' (first | exact rfl | exact we_rfl rfl | refine ⟨_, _, rfl, ?_, ?_⟩)) rfl rfl rfl (by repeat' (first | exact trivial | exact we_rfl rfl | exact we_int (nxt hlt (by omega)) | exact we_sl (dStrs_snoc' hw2) rfl | refine ⟨⟨_, rfl, ?_⟩, ?_⟩))), l.length - (e + 1), by omega, e + 1, rfl, by omega, rfl⟩
  · have hge : e = l.length := by
      have := h; simp [dWds_len] at this; omega
    have htk : (l.map wdT).take e = l.map wdT := List.take_of_length_le (by simp; omega)
    rw [htk]
    refine call_p (enters_of Try.func42 (by decide +kernel) rfl) (join_spec (l.map wdT) (ba [44, 32]) (by simp; omega) (by rw [tx_ba]; omega)) (by repeat' (first | exact rfl | exact trivial | exact Or.inr (Or.inl ⟨_, rfl⟩) | exact Or.inr ⟨_, rfl⟩ | exact Or.inl ⟨rfl, rfl⟩ | exact Or.inl rfl | refine Or.inr ⟨_, _, rfl, Nat.zero_le _, rfl, ?_⟩ | refine ⟨_, _, rfl, ?_, ?_⟩ | refine ⟨_, rfl, ?_⟩ | refine Or.inr (Or.inr (Or.inr ⟨_, _, rfl, ?_⟩)) | exact Or.inl rfl | refine Or.inr ?_)) rfl ?_
    rw [tx_ba]
    exact (rfl : _ = _)

theorem listP_spec (g : Nat) (hen : Enters Try.prog g) (ps : Pts) (L : List (List UInt8)) (hs : ps.wt ≤ 1099511627776) (hL : L.length = ps.len) (hjl : jl L ≤ 1099511627776)
    (hF : ∀ (e : Nat) p t, ps.toList[e]? = some (p, t) → ∃ x, L[e]? = some x ∧ EvP Try.prog g [.agg (dPh p (dTy t))] (.v (.string (ba x)))) :
    EvP Try.prog 33 [.sl 18 (dPts ps) none, .fn g [] []] (.v (.string (ba (joinT [] [44, 32] L)))) := by
  have hl := ps.wt_len
  have hj := joinT_len (f := []) (s := [44, 32]) (by simp) (by simp) L
  refine ev_go (P := Try.prog) tt tt_ok 5000 23 [.tmp 4] Try.func33 rfl Try.ntmps33 rfl (Nat.le_of_ble_eq_true rfl) (fun E9 w9 hn9 hm9 => ?_)
  refine loop_i (fun j st => ∃ e : Nat, st = listSt 18 (dPts ps) g L e e ∧ e ≤ ps.len ∧ j = ps.len - e) ps.len (listSt 18 (dPts ps) g L 0 0) (weak_tok ⟨0, 9, 1⟩ rfl ⟨_, rfl⟩ rfl (by repeat' (first | exact rfl | exact we_rfl rfl | refine ⟨_, _, rfl, ?_, ?_⟩)) rfl rfl (by repeat' (first | exact trivial | exact we_rfl rfl | exact we_rfl rfl | exact we_tok (Nat.le_refl _) rfl | refine ⟨⟨_, rfl, ?_⟩, ?_⟩))) ⟨0, rfl, by omega, rfl⟩ ?_
  rintro j st ⟨e, rfl, he, rfl⟩
  refine br (fun h => ?_) (fun h => ?_)
  · have hlt : e < ps.len := by simpa [dPts_len] using h
    obtain ⟨p, ⟨u, us⟩, hx⟩ := Pts.get_lt hlt
    obtain ⟨x, hx2, hev⟩ := hF e p _ hx
    refine ⟨dPh p (dTy (.mk u us)), ⟨by omega, dPts_get hx⟩, ?_⟩
    refine call_p hen hev (by repeat' (first | exact rfl | exact trivial | exact Or.inr (Or.inl ⟨_, rfl⟩) | exact Or.inr ⟨_, rfl⟩ | exact Or.inl ⟨rfl, rfl⟩ | exact Or.inl rfl | refine Or.inr ⟨_, _, rfl, Nat.zero_le _, rfl, ?_⟩ | refine ⟨_, _, rfl, ?_, ?_⟩ | refine ⟨_, rfl, ?_⟩ | refine Or.inr (Or.inr (Or.inr ⟨_, _, rfl, ?_⟩)) | exact Or.inl rfl | refine Or.inr ?_)) rfl ?_
    refine ⟨by simp [dStrs_len]; omega, ⟨by simp [dStrs_len, maxLen]; omega, by simp [dStrs_len]; omega⟩, ?_⟩
    refine ⟨listSt 18 (dPts ps) g L (e + 1) (e + 1), (weak_mk ⟨_, rfl⟩ (by repeat' (first | exact rfl | exact we_rfl rfl | refine ⟨_, _, rfl, ?_, ?_⟩)) rfl rfl rfl (by repeat' (first | exact trivial | exact we_rfl rfl | exact we_int (nxt hlt (by omega)) | exact we_sl (dStrs_snoc' hx2) rfl | refine ⟨⟨_, rfl, ?_⟩, ?_⟩))), ps.len - (e + 1), by omega, e + 1, rfl, by omega, rfl⟩
  · have hge : e = ps.len := by
      have := h; simp [dPts_len] at this; omega
    have htk : L.take e = L := List.take_of_length_le (by omega)
    rw [htk]
    refine call_p (enters_of Try.func42 (by decide +kernel) rfl) (join_spec L (ba [44, 32]) (by omega) (by rw [tx_ba]; omega)) (by repeat' (first | exact rfl | exact trivial | exact Or.inr (Or.inl ⟨_, rfl⟩) | exact Or.inr ⟨_, rfl⟩ | exact Or.inl ⟨rfl, rfl⟩ | exact Or.inl rfl | refine Or.inr ⟨_, _, rfl, Nat.zero_le _, rfl, ?_⟩ | refine ⟨_, _, rfl, ?_, ?_⟩ | refine ⟨_, rfl, ?_⟩ | refine Or.inr (Or.inr (Or.inr ⟨_, _, rfl, ?_⟩)) | exact Or.inl rfl | refine Or.inr ?_)) rfl ?_
    rw [tx_ba]
    exact (rfl : _ = _)
end Go.Proofs.Ytmphiikdhifhjaa
set_option maxRecDepth 100000
namespace Go.Proofs.Ytmphiikdhifhjaa
open Go Go.RowKit Dv Try

theorem ptsT_map (tag : Bool) : ∀ ps : Pts, ptsT tag ps = ps.toList.map fun x => partT tag x.1 (tyT x.2)
  | .nil => rfl
  | .cons p t r => by simp [ptsT, Pts.toList, ptsT_map tag r]

theorem field_spec (p : Ph) (t : Ty) (hb : p.bare = false) (hp : p.wt ≤ 1099511627776) (hw : I64 p.wide) (hc : I64 p.cn) (h0 : 0 ≤ p.wide) (hl : (tyT t).length ≤ 1099511627776)
    (ht : EvP Try.prog 21 [.agg (dTy t)] (.v (.string (ba (tyT t))))) :
    EvP Try.prog 34 [.agg (dPh p (dTy t))] (.v (.string (ba (partT false p (tyT t))))) := by
  have hm := marks_spec p t hp hw hc h0
  have l1 := marksT_len hw hc
  obtain ⟨⟨ns, na⟩, bare, label, wide, ck, cn, ca, cl⟩ := p
  simp only [Ph.wt, Wd.wt] at hp l1
  simp only at hb
  subst hb
  obtain ⟨th, tps⟩ := t
  refine ev_go (P := Try.prog) tt tt_ok 5000 14 [.tmp 2] Try.func34 rfl Try.ntmps34 rfl (Nat.le_of_ble_eq_true rfl) (fun E9 w9 hn9 hm9 => ?_)
  refine drawG_i (fun _ => false) mo (by decide +kernel) ?_
  refine ⟨by (simp only [sz_app, sz_ba, List.length_cons, List.length_nil]; omega), ?_⟩
  refine callD_p (enters_of Try.func21 (by decide +kernel) rfl) (ht) (by repeat' (first | exact rfl | exact trivial | exact Or.inr (Or.inl ⟨_, rfl⟩) | exact Or.inr ⟨_, rfl⟩ | exact Or.inl ⟨rfl, rfl⟩ | exact Or.inl rfl | refine Or.inr ⟨_, _, rfl, Nat.zero_le _, rfl, ?_⟩ | refine ⟨_, _, rfl, ?_, ?_⟩ | refine ⟨_, rfl, ?_⟩ | refine Or.inr (Or.inr (Or.inr ⟨_, _, rfl, ?_⟩)) | exact Or.inl rfl | refine Or.inr ?_)) rfl ?_
  refine ⟨by (simp only [sz_app, sz_ba, List.length_cons, List.length_nil]; omega), ?_⟩
  refine callD_p (enters_of Try.func43 (by decide +kernel) rfl) (hm) (by repeat' (first | exact rfl | exact trivial | exact Or.inr (Or.inl ⟨_, rfl⟩) | exact Or.inr ⟨_, rfl⟩ | exact Or.inl ⟨rfl, rfl⟩ | exact Or.inl rfl | refine Or.inr ⟨_, _, rfl, Nat.zero_le _, rfl, ?_⟩ | refine ⟨_, _, rfl, ?_, ?_⟩ | refine ⟨_, rfl, ?_⟩ | refine Or.inr (Or.inr (Or.inr ⟨_, _, rfl, ?_⟩)) | exact Or.inl rfl | refine Or.inr ?_)) rfl ?_
  refine ⟨by (simp only [sz_app, sz_ba, List.length_cons, List.length_nil]; omega), ?_⟩
  refine (congrArg (fun s => DV.v (.string s)) (ba_ext ?_) : _ = _)
  simp [partT, tx_app, tx_mk]

theorem tag_spec (p : Ph) (t : Ty) (hp : p.wt ≤ 1099511627776) (hw : I64 p.wide) (hc : I64 p.cn) (h0 : p.bare = false → 0 ≤ p.wide) (hl : p.bare = false → (tyT t).length ≤ 1099511627776)
    (ht : p.bare = false → EvP Try.prog 21 [.agg (dTy t)] (.v (.string (ba (tyT t))))) :
    EvP Try.prog 35 [.agg (dPh p (dTy t))] (.v (.string (ba (partT true p (tyT t))))) := by
  have hm := fun hb => marks_spec p t hp hw hc (h0 hb)
  have l1 := marksT_len hw hc
  obtain ⟨⟨ns, na⟩, bare, label, wide, ck, cn, ca, cl⟩ := p
  simp only [Ph.wt, Wd.wt] at hp l1
  simp only at h0 hl ht hm
  obtain ⟨th, tps⟩ := t
  cases bare
  · have hl := hl rfl
    have ht := ht rfl
    have hm := hm rfl
    refine ev_go (P := Try.prog) tt tt_ok 5000 20 [.tmp 2] Try.func35 rfl Try.ntmps35 rfl (Nat.le_of_ble_eq_true rfl) (fun E9 w9 hn9 hm9 => ?_)
    refine drawG_i (fun _ => false) mo (by decide +kernel) ?_
    refine ⟨by (simp only [sz_app, sz_ba, List.length_cons, List.length_nil]; omega), ?_⟩
    refine callD_p (enters_of Try.func21 (by decide +kernel) rfl) (ht) (by repeat' (first | exact rfl | exact trivial | exact Or.inr (Or.inl ⟨_, rfl⟩) | exact Or.inr ⟨_, rfl⟩ | exact Or.inl ⟨rfl, rfl⟩ | exact Or.inl rfl | refine Or.inr ⟨_, _, rfl, Nat.zero_le _, rfl, ?_⟩ | refine ⟨_, _, rfl, ?_, ?_⟩ | refine ⟨_, rfl, ?_⟩ | refine Or.inr (Or.inr (Or.inr ⟨_, _, rfl, ?_⟩)) | exact Or.inl rfl | refine Or.inr ?_)) rfl ?_
    refine ⟨by (simp only [sz_app, sz_ba, List.length_cons, List.length_nil]; omega), ?_⟩
    refine ⟨by (simp only [sz_app, sz_ba, List.length_cons, List.length_nil]; omega), ?_⟩
    refine callD_p (enters_of Try.func43 (by decide +kernel) rfl) (hm) (by repeat' (first | exact rfl | exact trivial | exact Or.inr (Or.inl ⟨_, rfl⟩) | exact Or.inr ⟨_, rfl⟩ | exact Or.inl ⟨rfl, rfl⟩ | exact Or.inl rfl | refine Or.inr ⟨_, _, rfl, Nat.zero_le _, rfl, ?_⟩ | refine ⟨_, _, rfl, ?_, ?_⟩ | refine ⟨_, rfl, ?_⟩ | refine Or.inr (Or.inr (Or.inr ⟨_, _, rfl, ?_⟩)) | exact Or.inl rfl | refine Or.inr ?_)) rfl ?_
    refine ⟨by (simp only [sz_app, sz_ba, List.length_cons, List.length_nil]; omega), ?_⟩
    refine (congrArg (fun s => DV.v (.string s)) (ba_ext ?_) : _ = _)
    simp [partT, tx_app, tx_mk]
  · refine ev_go (P := Try.prog) tt tt_ok 5000 20 [.tmp 2] Try.func35 rfl Try.ntmps35 rfl (Nat.le_of_ble_eq_true rfl) (fun E9 w9 hn9 hm9 => ?_)
    refine (congrArg (fun s => DV.v (.string s)) (ba_ext ?_) : _ = _)
    simp [partT]

theorem kind_any : ∀ (k : Nat) (t : Ty), t.wt ≤ k → t.wt ≤ 1099511627776 → fineT t →
    EvP Try.prog 21 [.agg (dTy t)] (.v (.string (ba (tyT t))))
  | 0, t, hn, _, _ => by have := t.wt_pos; omega
  | k + 1, .mk h ps, hn, hbig, hf => by
    have ih := kind_any k
    have hlen := tyT_len hf
    simp only [Ty.wt, Hd.wt, Wd.wt] at hn hbig hlen
    simp only [fineT] at hf
    obtain ⟨f1, f2, f3, f4, f5, f6⟩ := hf
    have l1 := putD_size f1.1 f1.2
    have l2 := putD_size f2.1 f2.2
    have l3 := putD_size f3.1 f3.2
    have lp := Pts.wt_len ps
    have lw := wdsWt_len h.names
    have j3 := jl_wds h.names
    have j1 := joinT_len (f := []) (s := [44, 32]) (by simp) (by simp) (h.names.map wdT)
    have jp := fun tag => ptsT_len (tag := tag) f6
    have jq := fun tag => joinT_len (f := []) (s := [44, 32]) (by simp) (by simp) (ptsT tag ps)
    obtain ⟨kind, at', lo, hi, most, names, name⟩ := h
    simp only at hn hbig hlen f1 f2 f3 f4 f5 f6 l1 l2 l3 lw j3 j1
    refine ev_go (P := Try.prog) tt tt_ok 5000 77 [.tmp 2] Try.func21 rfl Try.ntmps21 rfl (Nat.le_of_ble_eq_true rfl) (fun E9 w9 hn9 hm9 => ?_)
    refine br (fun k1 => ?_) (fun k1 => ?_)
    · have k1 : kind = 1 := of_decide_eq_true k1
      subst k1
      refine (congrArg (fun s => DV.v (.string s)) (ba_ext ?_) : _ = _)
      simp [tyT, headT, tx_mk]
    have k1 : ¬ kind = 1 := of_decide_eq_false k1
    refine br (fun k2 => ?_) (fun k2 => ?_)
    · have k2 : kind = 2 := of_decide_eq_true k2
      subst k2
      refine drawG_i (fun _ => false) mo (by decide +kernel) ?_
      refine callD_p (enters_of Try.func30 (by decide +kernel) rfl) (put_spec lo f1.1 f1.2) (by repeat' (first | exact rfl | exact trivial | exact Or.inr (Or.inl ⟨_, rfl⟩) | exact Or.inr ⟨_, rfl⟩ | exact Or.inl ⟨rfl, rfl⟩ | exact Or.inl rfl | refine Or.inr ⟨_, _, rfl, Nat.zero_le _, rfl, ?_⟩ | refine ⟨_, _, rfl, ?_, ?_⟩ | refine ⟨_, rfl, ?_⟩ | refine Or.inr (Or.inr (Or.inr ⟨_, _, rfl, ?_⟩)) | exact Or.inl rfl | refine Or.inr ?_)) rfl ?_
      refine ⟨by (simp only [sz_app, sz_ba, List.length_cons, List.length_nil]; omega), ?_⟩
      refine ⟨by (simp only [sz_app, sz_ba, List.length_cons, List.length_nil]; omega), ?_⟩
      refine callD_p (enters_of Try.func30 (by decide +kernel) rfl) (put_spec hi f2.1 f2.2) (by repeat' (first | exact rfl | exact trivial | exact Or.inr (Or.inl ⟨_, rfl⟩) | exact Or.inr ⟨_, rfl⟩ | exact Or.inl ⟨rfl, rfl⟩ | exact Or.inl rfl | refine Or.inr ⟨_, _, rfl, Nat.zero_le _, rfl, ?_⟩ | refine ⟨_, _, rfl, ?_, ?_⟩ | refine ⟨_, rfl, ?_⟩ | refine Or.inr (Or.inr (Or.inr ⟨_, _, rfl, ?_⟩)) | exact Or.inl rfl | refine Or.inr ?_)) rfl ?_
      refine ⟨by (simp only [sz_app, sz_ba, List.length_cons, List.length_nil]; omega), ?_⟩
      refine ⟨by (simp only [sz_app, sz_ba, List.length_cons, List.length_nil]; omega), ?_⟩
      refine (congrArg (fun s => DV.v (.string s)) (ba_ext ?_) : _ = _)
      simp [tyT, headT, tx_app, tx_mk, tx_putD]
    have k2 : ¬ kind = 2 := of_decide_eq_false k2
    refine br (fun k3 => ?_) (fun k3 => ?_)
    · have k3 : kind = 3 := of_decide_eq_true k3
      subst k3
      refine call_p (enters_of Try.func30 (by decide +kernel) rfl) (put_spec most f3.1 f3.2) (by repeat' (first | exact rfl | exact trivial | exact Or.inr (Or.inl ⟨_, rfl⟩) | exact Or.inr ⟨_, rfl⟩ | exact Or.inl ⟨rfl, rfl⟩ | exact Or.inl rfl | refine Or.inr ⟨_, _, rfl, Nat.zero_le _, rfl, ?_⟩ | refine ⟨_, _, rfl, ?_, ?_⟩ | refine ⟨_, rfl, ?_⟩ | refine Or.inr (Or.inr (Or.inr ⟨_, _, rfl, ?_⟩)) | exact Or.inl rfl | refine Or.inr ?_)) rfl ?_
      refine ⟨by (simp only [sz_app, sz_ba, List.length_cons, List.length_nil]; omega), ?_⟩
      refine ⟨by (simp only [sz_app, sz_ba, List.length_cons, List.length_nil]; omega), ?_⟩
      refine (congrArg (fun s => DV.v (.string s)) (ba_ext ?_) : _ = _)
      simp [tyT, headT, tx_app, tx_mk, tx_putD]
    have k3 : ¬ kind = 3 := of_decide_eq_false k3
    refine br (fun k4 => ?_) (fun k4 => ?_)
    · have k4 : kind = 4 := of_decide_eq_true k4
      subst k4
      refine call_p (enters_of Try.func31 (by decide +kernel) rfl) (listW_spec names (by omega)) (by repeat' (first | exact rfl | exact trivial | exact Or.inr (Or.inl ⟨_, rfl⟩) | exact Or.inr ⟨_, rfl⟩ | exact Or.inl ⟨rfl, rfl⟩ | exact Or.inl rfl | refine Or.inr ⟨_, _, rfl, Nat.zero_le _, rfl, ?_⟩ | refine ⟨_, _, rfl, ?_, ?_⟩ | refine ⟨_, rfl, ?_⟩ | refine Or.inr (Or.inr (Or.inr ⟨_, _, rfl, ?_⟩)) | exact Or.inl rfl | refine Or.inr ?_)) rfl ?_
      refine ⟨by (simp only [sz_app, sz_ba, List.length_cons, List.length_nil]; omega), ?_⟩
      refine ⟨by (simp only [sz_app, sz_ba, List.length_cons, List.length_nil]; omega), ?_⟩
      refine (congrArg (fun s => DV.v (.string s)) (ba_ext ?_) : _ = _)
      simp [tyT, headT, tx_app, tx_mk]
    have k4 : ¬ kind = 4 := of_decide_eq_false k4
    have hone : kind = 5 ∨ kind = 6 → ∃ p u us, ps = .cons p (.mk u us) .nil ∧ fineT (.mk u us) := by
      intro hk
      match ps, f5 hk, f6 with
      | .cons p (.mk u us) .nil, _, f6 =>
        simp only [fineP] at f6
        have hb : p.bare = false := by
          cases hb : p.bare
          · rfl
          · have := f6.2.2.1 hb; omega
        exact ⟨p, u, us, rfl, (f6.2.2.2.1 hb).2⟩
      | .cons p t (.cons q u r), h, _ => simp [Pts.len] at h
    refine br (fun k5 => ?_) (fun k5 => ?_)
    · have k5 : kind = 5 := of_decide_eq_true k5
      subst k5
      obtain ⟨p, u, us, rfl, hfu⟩ := hone (.inl rfl)
      have hlu := tyT_len hfu
      simp only [Pts.wt] at hn hbig
      refine drawG_i (fun _ => false) mo (by decide +kernel) ?_
      refine ⟨dPh p (dTy (.mk u us)), ⟨by omega, rfl⟩, ?_⟩
      refine callD_p (enters_of Try.func21 (by decide +kernel) rfl) (ih (.mk u us) (by omega) (by omega) hfu) (by repeat' (first | exact rfl | exact trivial | exact Or.inr (Or.inl ⟨_, rfl⟩) | exact Or.inr ⟨_, rfl⟩ | exact Or.inl ⟨rfl, rfl⟩ | exact Or.inl rfl | refine Or.inr ⟨_, _, rfl, Nat.zero_le _, rfl, ?_⟩ | refine ⟨_, _, rfl, ?_, ?_⟩ | refine ⟨_, rfl, ?_⟩ | refine Or.inr (Or.inr (Or.inr ⟨_, _, rfl, ?_⟩)) | exact Or.inl rfl | refine Or.inr ?_)) rfl ?_
      refine ⟨by (simp only [sz_app, sz_ba, List.length_cons, List.length_nil]; omega), ?_⟩
      refine ⟨by (simp only [sz_app, sz_ba, List.length_cons, List.length_nil]; omega), ?_⟩
      refine callD_p (enters_of Try.func30 (by decide +kernel) rfl) (put_spec most f3.1 f3.2) (by repeat' (first | exact rfl | exact trivial | exact Or.inr (Or.inl ⟨_, rfl⟩) | exact Or.inr ⟨_, rfl⟩ | exact Or.inl ⟨rfl, rfl⟩ | exact Or.inl rfl | refine Or.inr ⟨_, _, rfl, Nat.zero_le _, rfl, ?_⟩ | refine ⟨_, _, rfl, ?_, ?_⟩ | refine ⟨_, rfl, ?_⟩ | refine Or.inr (Or.inr (Or.inr ⟨_, _, rfl, ?_⟩)) | exact Or.inl rfl | refine Or.inr ?_)) rfl ?_
      refine ⟨by (simp only [sz_app, sz_ba, List.length_cons, List.length_nil]; omega), ?_⟩
      refine ⟨by (simp only [sz_app, sz_ba, List.length_cons, List.length_nil]; omega), ?_⟩
      refine (congrArg (fun s => DV.v (.string s)) (ba_ext ?_) : _ = _)
      simp [tyT.eq_1 ⟨5, at', lo, hi, most, names, name⟩, headT, firstT, tx_app, tx_mk, tx_putD]
    have k5 : ¬ kind = 5 := of_decide_eq_false k5
    refine br (fun k6 => ?_) (fun k6 => ?_)
    · have k6 : kind = 6 := of_decide_eq_true k6
      subst k6
      obtain ⟨p, u, us, rfl, hfu⟩ := hone (.inr rfl)
      have hlu := tyT_len hfu
      simp only [Pts.wt] at hn hbig
      refine ⟨dPh p (dTy (.mk u us)), ⟨by omega, rfl⟩, ?_⟩
      refine call_p (enters_of Try.func21 (by decide +kernel) rfl) (ih (.mk u us) (by omega) (by omega) hfu) (by repeat' (first | exact rfl | exact trivial | exact Or.inr (Or.inl ⟨_, rfl⟩) | exact Or.inr ⟨_, rfl⟩ | exact Or.inl ⟨rfl, rfl⟩ | exact Or.inl rfl | refine Or.inr ⟨_, _, rfl, Nat.zero_le _, rfl, ?_⟩ | refine ⟨_, _, rfl, ?_, ?_⟩ | refine ⟨_, rfl, ?_⟩ | refine Or.inr (Or.inr (Or.inr ⟨_, _, rfl, ?_⟩)) | exact Or.inl rfl | refine Or.inr ?_)) rfl ?_
      refine ⟨by (simp only [sz_app, sz_ba, List.length_cons, List.length_nil]; omega), ?_⟩
      refine ⟨by (simp only [sz_app, sz_ba, List.length_cons, List.length_nil]; omega), ?_⟩
      refine (congrArg (fun s => DV.v (.string s)) (ba_ext ?_) : _ = _)
      simp [tyT.eq_1 ⟨6, at', lo, hi, most, names, name⟩, headT, firstT, tx_app, tx_mk, tx_putD]
    have k6 : ¬ kind = 6 := of_decide_eq_false k6
    have hpt : ∀ (e : Nat) p t, ps.toList[e]? = some (p, t) → p.wt ≤ 1099511627776 ∧ I64 p.wide ∧ I64 p.cn ∧ (p.bare = true → kind = 8) ∧ (p.bare = false → 0 ≤ p.wide) ∧ (p.bare = false → (tyT t).length ≤ 1099511627776) ∧
        (p.bare = false → EvP Try.prog 21 [.agg (dTy t)] (.v (.string (ba (tyT t))))) := by
      intro e p t hx
      have hpw := Pts.wt_mem (List.mem_of_getElem? hx)
      obtain ⟨g1, g2, g3, g4⟩ := fineP_get f6 hx
      exact ⟨by omega, g1, g2, g3, fun hb => (g4 hb).1, fun hb => by have := tyT_len (g4 hb).2; omega, fun hb => ih t (by omega) (by omega) (g4 hb).2⟩
    refine br (fun k7 => ?_) (fun k7 => ?_)
    · have k7 : kind = 7 := of_decide_eq_true k7
      subst k7
      have jp := jp false
      have jq := jq false
      refine call_p (enters_of Try.func33 (by decide +kernel) rfl) (listP_spec 34 (enters_of Try.func34 (by decide +kernel) rfl) ps (ptsT false ps) (by omega) (ptsT_length ps) (by omega) (fun e p t hx => ⟨_, ptsT_get hx, by obtain ⟨g1, g2, g3, g4, g5, g6, g7⟩ := hpt e p t hx; have hb : p.bare = false := Bool.eq_false_iff.2 (fun hb => absurd (g4 hb) (by decide)); exact field_spec p t hb g1 g2 g3 (g5 hb) (g6 hb) (g7 hb)⟩)) (by repeat' (first | exact rfl | exact trivial | exact Or.inr (Or.inl ⟨_, rfl⟩) | exact Or.inr ⟨_, rfl⟩ | exact Or.inl ⟨rfl, rfl⟩ | exact Or.inl rfl | refine Or.inr ⟨_, _, rfl, Nat.zero_le _, rfl, ?_⟩ | refine ⟨_, _, rfl, ?_, ?_⟩ | refine ⟨_, rfl, ?_⟩ | refine Or.inr (Or.inr (Or.inr ⟨_, _, rfl, ?_⟩)) | exact Or.inl rfl | refine Or.inr ?_)) rfl ?_
      refine ⟨by (simp only [sz_app, sz_ba, List.length_cons, List.length_nil]; omega), ?_⟩
      refine ⟨by (simp only [sz_app, sz_ba, List.length_cons, List.length_nil]; omega), ?_⟩
      refine (congrArg (fun s => DV.v (.string s)) (ba_ext ?_) : _ = _)
      simp [tyT, headT, tx_app, tx_mk]
    have k7 : ¬ kind = 7 := of_decide_eq_false k7
    refine br (fun k8 => ?_) (fun k8 => ?_)
    · have k8 : kind = 8 := of_decide_eq_true k8
      subst k8
      have jp := jp true
      have jq := jq true
      refine call_p (enters_of Try.func33 (by decide +kernel) rfl) (listP_spec 35 (enters_of Try.func35 (by decide +kernel) rfl) ps (ptsT true ps) (by omega) (ptsT_length ps) (by omega) (fun e p t hx => ⟨_, ptsT_get hx, by obtain ⟨g1, g2, g3, g4, g5, g6, g7⟩ := hpt e p t hx; exact tag_spec p t g1 g2 g3 g5 g6 g7⟩)) (by repeat' (first | exact rfl | exact trivial | exact Or.inr (Or.inl ⟨_, rfl⟩) | exact Or.inr ⟨_, rfl⟩ | exact Or.inl ⟨rfl, rfl⟩ | exact Or.inl rfl | refine Or.inr ⟨_, _, rfl, Nat.zero_le _, rfl, ?_⟩ | refine ⟨_, _, rfl, ?_, ?_⟩ | refine ⟨_, rfl, ?_⟩ | refine Or.inr (Or.inr (Or.inr ⟨_, _, rfl, ?_⟩)) | exact Or.inl rfl | refine Or.inr ?_)) rfl ?_
      refine ⟨by (simp only [sz_app, sz_ba, List.length_cons, List.length_nil]; omega), ?_⟩
      refine ⟨by (simp only [sz_app, sz_ba, List.length_cons, List.length_nil]; omega), ?_⟩
      refine (congrArg (fun s => DV.v (.string s)) (ba_ext ?_) : _ = _)
      simp [tyT, headT, tx_app, tx_mk]
    have k8 : ¬ kind = 8 := of_decide_eq_false k8
    have k9 : kind = 9 := by omega
    subst k9
    refine ⟨by (simp only [sz_app, sz_ba, List.length_cons, List.length_nil]; omega), ?_⟩
    refine ⟨by (simp only [sz_app, sz_ba, List.length_cons, List.length_nil]; omega), ?_⟩
    refine (congrArg (fun s => DV.v (.string s)) (ba_ext ?_) : _ = _)
    simp [tyT, headT, tx_app, tx_mk]

/-- **unparse.kind: the type's text.** -/
theorem kind_spec (t : Ty) (hbig : t.wt ≤ 1099511627776) (hf : fineT t) : EvP Try.prog 21 [.agg (dTy t)] (.v (.string (ba (tyT t)))) := kind_any _ t (Nat.le_refl _) hbig hf
end Go.Proofs.Ytmphiikdhifhjaa
set_option maxRecDepth 100000
namespace Go.Proofs.Ytmphiikdhifhjaa
open Go Go.RowKit Dv Try

/-- A type's text, if nothing is wrong with it. -/
def typeT (t : Ty) : ByteArray := if (wrong t 1 0).1.1 = 0 then ba (tyT t) else ⟨#[]⟩

theorem utype_of (t : Ty) (hbig : t.wt ≤ 1099511627776) (hf : (wrong t 1 0).1.1 = 0 → fineT t)
    (hc : Ev Try.prog 29 [.loc 0 0, .agg (dTy t), .v (.int .i64 1)] [[.v (.int .i64 0)]] [] (ChkΦ t 1 0)) :
    EvP Try.prog 11 [.agg (dTy t)] (.v (.string (typeT t))) := by
  have hr := kright_of t hc
  have hk := fun h => kind_spec t hbig (hf h)
  have e0 : typeT t = if (wrong t 1 0).1.1 = 0 then ba (tyT t) else ⟨#[]⟩ := rfl
  obtain ⟨h, ps⟩ := t
  refine ev_go (P := Try.prog) tt tt_ok 5000 9 [.tmp 2] Try.func11 rfl Try.ntmps11 rfl (Nat.le_of_ble_eq_true rfl) (fun E9 w9 hn9 hm9 => ?_)
  refine call_p (enters_of Try.func20 (by decide +kernel) rfl) (hr) (by repeat' (first | exact rfl | exact trivial | exact Or.inr (Or.inl ⟨_, rfl⟩) | exact Or.inr ⟨_, rfl⟩ | exact Or.inl ⟨rfl, rfl⟩ | exact Or.inl rfl | refine Or.inr ⟨_, _, rfl, Nat.zero_le _, rfl, ?_⟩ | refine ⟨_, _, rfl, ?_, ?_⟩ | refine ⟨_, rfl, ?_⟩ | refine Or.inr (Or.inr (Or.inr ⟨_, _, rfl, ?_⟩)) | exact Or.inl rfl | refine Or.inr ?_)) rfl ?_
  refine br (fun hb => ?_) (fun hb => ?_)
  · have hb : ¬ (wrong (.mk h ps) 1 0).1.1 = 0 := by simpa using hb
    refine (congrArg (fun s => DV.v (.string s)) ?_ : _ = _)
    rw [e0, if_neg hb]
  · have hb : (wrong (.mk h ps) 1 0).1.1 = 0 := by simpa using hb
    refine call_p (enters_of Try.func21 (by decide +kernel) rfl) (hk hb) (by repeat' (first | exact rfl | exact trivial | exact Or.inr (Or.inl ⟨_, rfl⟩) | exact Or.inr ⟨_, rfl⟩ | exact Or.inl ⟨rfl, rfl⟩ | exact Or.inl rfl | refine Or.inr ⟨_, _, rfl, Nat.zero_le _, rfl, ?_⟩ | refine ⟨_, _, rfl, ?_, ?_⟩ | refine ⟨_, rfl, ?_⟩ | refine Or.inr (Or.inr (Or.inr ⟨_, _, rfl, ?_⟩)) | exact Or.inl rfl | refine Or.inr ?_)) rfl ?_
    refine (congrArg (fun s => DV.v (.string s)) ?_ : _ = _)
    rw [e0, if_pos hb]
end Go.Proofs.Ytmphiikdhifhjaa
set_option maxRecDepth 100000
namespace Go.Proofs.Ytmphiikdhifhjaa
open Go Go.RowKit Dv Try

mutual
/-- All numbers are ints. -/
def rngT : Ty → Prop
  | .mk h ps => I64 h.lo ∧ I64 h.hi ∧ I64 h.most ∧ rngP ps
def rngP : Pts → Prop
  | .nil => True
  | .cons p t r => I64 p.wide ∧ I64 p.cn ∧ rngT t ∧ rngP r
end

theorem own_len {h : Hd} {ps : Pts} (ho : ¬ ownB (.mk h ps) = false) : ps.len = 0 ∨ (5 ≤ h.kind ∧ h.kind ≤ 8) := by
  have h1 : ownF h ps = true := by
    rw [ownF_eq]
    cases hb : sameTy (.mk h ps) (mask (.mk h ps))
    · exact absurd hb ho
    · rfl
  unfold ownF at h1
  simp only [Bool.and_eq_true, Bool.or_eq_true, decide_eq_true_eq] at h1
  exact h1.1.1.2

mutual
theorem wrong_fine : ∀ (t : Ty) (depth m : Int), rngT t → (wrong t depth m).1.1 = 0 → fineT t
  | .mk h ps, depth, m, hr, he => by
    simp only [rngT] at hr
    obtain ⟨r1, r2, r3, r4⟩ := hr
    have i1 := wrongOne_fine h ps depth (m + 1) r4
    have i2 := wrongPts_fine h.kind (pNames ps) ps 0 depth (m + 1) r4
    simp only [wrong] at he
    by_cases c0 : 24 < depth
    · rw [if_pos c0] at he; simp at he
    rw [if_neg c0] at he
    by_cases c1 : 512 < m + 1
    · rw [if_pos c1] at he; simp at he
    rw [if_neg c1] at he
    by_cases c2 : h.kind < 1 ∨ 9 < h.kind
    · rw [if_pos c2] at he; simp at he
    rw [if_neg c2] at he
    by_cases c3 : ownB (.mk h ps) = false
    · rw [if_pos c3] at he; simp at he
    rw [if_neg c3] at he
    have ho := own_len c3
    by_cases c4 : (h.kind = 2 ∧ h.hi < h.lo) ∨ (h.kind = 3 ∧ (h.most < 0 ∨ 4096 < h.most))
    · rw [if_pos c4] at he; simp at he
    rw [if_neg c4] at he
    by_cases c5 : h.kind = 9 ∧ nameOK h.name.s = false
    · rw [if_pos c5] at he; simp at he
    rw [if_neg c5] at he
    have hnil : ¬ (5 ≤ h.kind ∧ h.kind ≤ 8) → fineP h.kind ps := by
      intro hk
      have : ps.len = 0 := ho.resolve_right hk
      cases ps with
      | nil => simp [fineP]
      | cons p t r => simp [Pts.len] at this
    simp only [fineT]
    refine ⟨r1, r2, r3, ⟨by omega, by omega⟩, ?_⟩
    by_cases k5 : h.kind = 5 ∨ h.kind = 6
    · rw [if_neg (by omega), if_pos k5] at he
      obtain ⟨j1, j2⟩ := i1 he
      exact ⟨fun _ => j1, j2 h.kind⟩
    · refine ⟨fun hk => absurd hk k5, ?_⟩
      by_cases k7 : h.kind = 7 ∨ h.kind = 8
      · rw [if_neg (by omega), if_neg k5, if_pos k7] at he
        by_cases d1 : h.kind = 8 ∧ ps.len = 0
        · rw [if_pos d1] at he; simp at he
        rw [if_neg d1] at he
        by_cases d2 : 64 < ps.len
        · rw [if_pos d2] at he; simp at he
        rw [if_neg d2] at he
        exact i2 k7 he
      · exact hnil (by omega)
theorem wrongOne_fine : ∀ (h : Hd) (ps : Pts) (depth m : Int), rngP ps → (wrongOne h ps depth m).1.1 = 0 → ps.len = 1 ∧ ∀ k : Int, fineP k ps
  | h, .cons p t .nil, depth, m, hr, he => by
    simp only [rngP] at hr
    have i := wrong_fine t (depth + 1) m hr.2.2.1
    simp only [wrongOne] at he
    by_cases c0 : p.name.s ≠ emptyB ∨ plainP p zeroPh = false
    · rw [if_pos c0] at he; simp at he
    rw [if_neg c0] at he
    by_cases c1 : h.most < 0 ∨ 1024 < h.most
    · rw [if_pos c1] at he; simp at he
    rw [if_neg c1] at he
    have hp : plainP p zeroPh = true := by
      cases hb : plainP p zeroPh
      · exact absurd (.inr hb) c0
      · rfl
    simp only [plainP, zeroPh, Bool.and_eq_true, decide_eq_true_eq, beq_iff_eq] at hp
    refine ⟨rfl, fun k => ?_⟩
    simp only [fineP]
    have hbare : p.bare = false := hp.1.1.1.1.1
    have hwide : p.wide = 0 := of_decide_eq_true hp.1.1.1.1.2
    exact ⟨hr.1, hr.2.1, fun hb => (by rw [hbare] at hb; cases hb), fun _ => ⟨by omega, i he⟩, trivial⟩
  | h, .nil, depth, m, hr, he => by simp [wrongOne] at he
  | h, .cons p t (.cons q u r), depth, m, hr, he => by simp [wrongOne] at he
theorem wrongPts_fine : ∀ (kind : Int) (all : List Wd) (ps : Pts) (i : Nat) (depth m : Int), rngP ps → (kind = 7 ∨ kind = 8) → (wrongPts kind all i ps depth m).1.1 = 0 → fineP kind ps
  | kind, all, .nil, i, depth, m, hr, hk, he => by simp [fineP]
  | kind, all, .cons p t r, i, depth, m, hr, hk, he => by
    simp only [rngP] at hr
    have i1 := wrong_fine t (depth + 1) m hr.2.2.1
    have i2 := fun m' => wrongPts_fine kind all r (i + 1) depth m' hr.2.2.2 hk
    simp only [wrongPts] at he
    simp only [fineP]
    by_cases c0 : listedF all i p.name ≠ 0
    · rw [if_pos c0] at he; exact absurd he c0
    rw [if_neg c0] at he
    by_cases c1 : p.bare = true
    · rw [if_pos c1] at he
      by_cases c2 : kind = 7 ∨ sameTy t zeroTy = false ∨ plainP p barePh = false
      · rw [if_pos c2] at he; simp at he
      rw [if_neg c2] at he
      exact ⟨hr.1, hr.2.1, fun _ => by omega, fun hb => by (rw [c1] at hb; cases hb), i2 _ he⟩
    · rw [if_neg c1] at he
      by_cases c2 : (partWd p).1 ≠ 0
      · rw [if_pos c2] at he; exact absurd he c2
      rw [if_neg c2] at he
      by_cases c3 : (wrong t (depth + 1) m).1.1 ≠ 0
      · rw [if_pos c3] at he; exact absurd he c3
      rw [if_neg c3] at he
      have hw : ¬ (p.wide < 0 ∨ 64 < p.wide) := fun hc => c2 (by simp [partWd, hc])
      exact ⟨hr.1, hr.2.1, fun hb => absurd hb c1, fun _ => ⟨by omega, i1 (by omega)⟩, i2 _ he⟩
end
end Go.Proofs.Ytmphiikdhifhjaa
namespace Go.Proofs.Ytmphiikdhifhjaa
namespace Dv
open Go Go.RowKit

/-- What the cells of a type are, as data. -/
def TypFs (f : TypeId → List DV → Prop) : List TypeId → List DV → Prop
  | [], ds => ds = []
  | t :: r, ds => ∃ a b, ds = a ++ b ∧ f t a ∧ TypFs f r b
def Typ (P : Program) : Nat → TypeId → List DV → Prop
  | 0, _, _ => False
  | n + 1, t, ds =>
    match P.underlying t with
    | some .bool => ∃ b, ds = [.v (.bool b)]
    | some (.int k) => ∃ z, ds = [.v (.int k z)] ∧ (Lit.int k z).wf = true
    | some .string => ∃ s : ByteArray, ds = [.v (.string s)]
    | some (.slice e) => ∃ es, ds = [.sl (P.cellsOf e) es none] ∧ ∀ cs ∈ es, Typ P n e cs
    | some (.struct fs) => TypFs (Typ P n) (fs.toList.map (·.type)) ds
    | _ => False

mutual
/-- A datum's weight. -/
def wgD : DV → Nat
  | .v (.string s) => s.size + 64
  | .sl _ es _ => 64 + wgEs es
  | _ => 64
def wgL : List DV → Nat
  | [] => 0
  | d :: r => wgD d + wgL r
def wgEs : List (List DV) → Nat
  | [] => 0
  | cs :: r => wgL cs + wgEs r
end

theorem wgL_append : ∀ a b : List DV, wgL (a ++ b) = wgL a + wgL b
  | [], b => by simp [wgL]
  | d :: r, b => by simp only [List.cons_append, wgL, wgL_append r b]; omega

/-- The fields of a struct lie one behind the other, and are of types of S. -/
def laidF (P : Program) (S : List TypeId) : Nat → List Field → Nat → Bool
  | off, [], n => decide (off = n)
  | off, f :: r, n => decide (f.offset = off) && S.contains f.type && laidF P S (off + P.cellsOf f.type) r n
def flatOK (P : Program) (S : List TypeId) (t : TypeId) : Bool :=
  match P.underlying t with
  | some .bool => decide (P.cellsOf t = 1)
  | some (.int _) => decide (P.cellsOf t = 1)
  | some .string => decide (P.cellsOf t = 1)
  | some (.slice e) => decide (P.cellsOf t = 1) && S.contains e && decide (0 < P.cellsOf e)
  | some (.struct fs) => laidF P S 0 fs.toList (P.cellsOf t)
  | _ => false

/-- A measure of what is read. -/
def bkS {H : Type} (bk : DataW H → Nat) : List (DataW H) → Nat
  | [] => 0
  | d :: r => bk d + bkS bk r
structure Bk {H : Type} (bk : DataW H → Nat) : Prop where
  str : ∀ l : List UInt8, l.length + 1 ≤ bk (.lit (.string l))
  lit : ∀ l, 1 ≤ bk (.lit l)
  nil : 1 ≤ bk .nil
  slice : ∀ es sp, 1 + bkS bk es ≤ bk (.slice es sp)
  agg : ∀ l, bkS bk l ≤ bk (.agg l)

/-- All of memory is known. -/
def enW (w : World) : En := ⟨fun a => w.cell? a, [], [], []⟩
theorem enW_env (w : World) : Env (enW w) [] w where
  len := rfl
  tl := rfl
  bxs := by simp
  inj := List.nodup_nil
  sub := fun x u hx => hx
  pc := by simp [enW]
  tks := by simp [enW]
  tkd := by simp [enW]

theorem cell_spot {w : World} {a : Addr} {k : Nat} {v : Value} (h : w.cell? (a.add k) = some v) : w.cell? ⟨a.block, a.off + k, none⟩ = some v := by
  unfold Addr.add at h
  split at h
  · rename_i hk
    subst hk
    unfold World.cell? at h ⊢
    split at h
    · rename_i c e z he
      split at h
      · cases h
      · simpa [he] using h
    · cases h
  · exact h
theorem spot_none {w : World} {a : Addr} {v : Value} (h : w.cell? a = some v) : a.spot = none := by
  unfold World.cell? at h
  split at h
  · split at h
    · cases h
    · rename_i hs; simpa using hs
  · cases h

theorem rvAt_cells {E : En} {b : Nat} : ∀ {p : Nat} {ds : List DV} {vs : List Value}, RvL E.cl ds vs → (∀ (j : Nat) v, vs[j]? = some v → E.c ⟨b, p + j, none⟩ = some v ∧ v.oneCell' = true) → RvAt E.cl b p ds
  | p, [], vs, h, hc => by simp only [RvAt]
  | p, d :: r, vs, h, hc => by
    simp only [RvL] at h
    obtain ⟨v, s, rfl, h1, h2⟩ := h
    simp only [RvAt]
    obtain ⟨c1, c2⟩ := hc 0 v rfl
    refine ⟨⟨v, c1, c2, h1⟩, rvAt_cells (p := p + 1) h2 fun j u hj => ?_⟩
    have := hc (j + 1) u hj
    rw [show p + 1 + j = p + (j + 1) by omega]
    exact this

section
variable {H : Type} {enc : TypeId × Value → H} {P : Program} {w : World} {sp : Nat → Bool} {held : Bool} {S : List TypeId} {bk : DataW H → Nat}

/-- What is read of some cells. -/
def Rd (enc : TypeId × Value → H) (P : Program) (w : World) (bk : DataW H → Nat) (n : Nat) (t : TypeId) (cs : List Value) (d : DataW H) : Prop :=
  ∃ ds, RvL (enW w) ds cs ∧ (∀ v ∈ cs, v.oneCell' = true) ∧ Typ P n t ds ∧ wgL ds ≤ 64 * bk d ∧ cs.length = P.cellsOf t

theorem rd_fields {n : Nat} (ih : ∀ t cs x, t ∈ S → DataW.trod enc P w 0 sp held n t cs = some x → Rd enc P w bk n t cs x.1) (cs : List Value) :
    ∀ (fs : List Field) (off : Nat) (xs : List (DataW H × List MemPlace)), laidF P S off fs cs.length = true → xs.length = fs.length →
      (∀ (i : Nat) f, fs[i]? = some f → DataW.trod enc P w 0 sp held n f.type ((cs.drop f.offset).take (P.cellsOf f.type)) = xs[i]?) →
      ∃ ds, RvL (enW w) ds (cs.drop off) ∧ (∀ v ∈ cs.drop off, v.oneCell' = true) ∧ TypFs (Typ P n) (fs.map (·.type)) ds ∧ wgL ds ≤ 64 * bkS bk (xs.map (·.1))
  | [], off, xs, hl, hxl, hx => by
    simp only [laidF, decide_eq_true_eq] at hl
    subst hl
    simp only [List.length_nil, List.length_eq_zero_iff] at hxl
    subst hxl
    exact ⟨[], by simpa using rvL_nil _, by simp, by simp [TypFs], by simp [wgL]⟩
  | f :: r, off, xs, hl, hxl, hx => by
    simp only [laidF, Bool.and_eq_true, decide_eq_true_eq] at hl
    obtain ⟨⟨hof, hS⟩, hl⟩ := hl
    match xs, hxl with
    | x :: xs, hxl =>
      have h0 := hx 0 f rfl
      rw [hof] at h0
      simp only [List.getElem?_cons_zero] at h0
      obtain ⟨ds0, r1, r2, r3, r4, r5⟩ := ih f.type _ x (by simpa using hS) h0
      obtain ⟨ds1, s1, s2, s3, s4⟩ := rd_fields ih cs r (off + P.cellsOf f.type) xs hl (by simpa using hxl) (fun i g hg => by simpa using hx (i + 1) g (by simpa using hg))
      have hsplit : cs.drop off = (cs.drop off).take (P.cellsOf f.type) ++ cs.drop (off + P.cellsOf f.type) := by
        rw [← List.drop_drop, List.take_append_drop]
      refine ⟨ds0 ++ ds1, ?_, ?_, ?_, ?_⟩
      · rw [hsplit]; exact RvL.append r1 s1
      · rw [hsplit]
        intro v hv
        rcases List.mem_append.1 hv with hv | hv
        · exact r2 v hv
        · exact s2 v hv
      · simp only [List.map_cons, TypFs]
        exact ⟨ds0, ds1, rfl, r3, s3⟩
      · rw [wgL_append]
        simp only [List.map_cons, bkS]
        omega

theorem rd_elems {n e : Nat} (ih : ∀ t cs x, t ∈ S → DataW.trod enc P w 0 sp held n t cs = some x → Rd enc P w bk n t cs x.1) (he : e ∈ S) (a : Addr) :
    ∀ (xs : List (DataW H × List MemPlace)) (i0 : Nat), (∀ i, i < xs.length → (w.cells? 0 (a.add ((i0 + i) * P.cellsOf e)) (P.cellsOf e)).bind (DataW.trod enc P w 0 sp held n e) = xs[i]?) →
      ∃ es, es.length = xs.length ∧ RvEs (enW w) (P.cellsOf e) a.block (a.off + i0 * P.cellsOf e) es ∧ (∀ cs ∈ es, Typ P n e cs) ∧ wgEs es ≤ 64 * bkS bk (xs.map (·.1))
  | [], i0, hx => ⟨[], rfl, by simp only [RvEs], by simp, by simp [wgEs]⟩
  | x :: xs, i0, hx => by
    have h0 := hx 0 (by simp)
    simp only [Nat.add_zero, List.getElem?_cons_zero] at h0
    obtain ⟨cs, hcs, ht⟩ := Option.bind_eq_some_iff.1 h0
    obtain ⟨_, hlen, hcell⟩ := World.cells?_some hcs
    obtain ⟨ds0, r1, r2, r3, r4, r5⟩ := ih e cs x he ht
    obtain ⟨es, s1, s2, s3, s4⟩ := rd_elems ih he a xs (i0 + 1) (fun i hi => by
      have := hx (i + 1) (by simpa using hi)
      simp only [List.getElem?_cons_succ] at this
      rw [show i0 + 1 + i = i0 + (i + 1) by omega]
      exact this)
    refine ⟨ds0 :: es, by simp [s1], ?_, ?_, ?_⟩
    · simp only [RvEs]
      refine ⟨by rw [← r1.length, hlen], rvAt_cells (E := enW w) r1 fun j v hj => ⟨?_, r2 v (List.mem_of_getElem? hj)⟩, ?_⟩
      · have hjl : j < P.cellsOf e := by rw [← hlen]; exact (List.getElem?_eq_some_iff.1 hj).1
        have h1 := hcell j hjl
        rw [hj, Deep.add_add] at h1
        have h2 := cell_spot h1
        show w.cell? _ = _
        rw [Nat.add_assoc]
        exact h2
      · rw [Nat.add_assoc, show i0 * P.cellsOf e + P.cellsOf e = (i0 + 1) * P.cellsOf e by rw [Nat.add_mul, Nat.one_mul]]
        exact s2
    · intro cs' hc
      rcases List.mem_cons.1 hc with hc | hc
      · subst hc; exact r3
      · exact s3 cs' hc
    · simp only [wgEs, List.map_cons, bkS]
      omega

theorem rd_trod (hbk : Bk bk) (hS : ∀ t ∈ S, flatOK P S t = true) : ∀ (n : Nat) (t : TypeId) (cs : List Value) (x : DataW H × List MemPlace), t ∈ S → DataW.trod enc P w 0 sp held n t cs = some x → Rd enc P w bk n t cs x.1
  | 0, t, cs, x, _, h => by simp [DataW.trod] at h
  | n + 1, t, cs, x, ht, h => by
    have hf := hS t ht
    unfold flatOK at hf
    unfold Rd
    cases hu : P.underlying t with
    | none => rw [hu] at hf; cases hf
    | some D =>
      rw [hu] at hf
      cases D with
      | bool =>
        simp only [decide_eq_true_eq] at hf
        obtain ⟨b, rfl, rfl⟩ := DataW.trod_bool hu h
        have := hbk.lit (.bool b)
        exact ⟨[.v (.bool b)], rvL_one (by unfold Rv; exact ⟨rfl, rfl⟩), by simp [Value.oneCell'], by simp only [Typ, hu]; exact ⟨b, rfl⟩, by simp only [wgL, wgD]; omega, by simp [hf]⟩
      | int k =>
        simp only [decide_eq_true_eq] at hf
        obtain ⟨z, rfl, rfl, hw⟩ := DataW.trod_int hu h
        have := hbk.lit (.int k z)
        exact ⟨[.v (.int k z)], rvL_one (by unfold Rv; exact ⟨rfl, rfl⟩), by simp [Value.oneCell'], by simp only [Typ, hu]; exact ⟨z, rfl, hw⟩, by simp only [wgL, wgD]; omega, by simp [hf]⟩
      | string =>
        simp only [decide_eq_true_eq] at hf
        obtain ⟨s, rfl, rfl, hw⟩ := DataW.trod_string hu h
        have := hbk.str s.data.toList
        have hsz : s.data.toList.length = s.size := by rw [Array.length_toList]; rfl
        exact ⟨[.v (.string s)], rvL_one (by unfold Rv; exact ⟨rfl, rfl⟩), by simp [Value.oneCell'], by simp only [Typ, hu]; exact ⟨s, rfl⟩, by simp only [wgL, wgD]; omega, by simp [hf]⟩
      | slice e =>
        simp only [Bool.and_eq_true, decide_eq_true_eq] at hf
        obtain ⟨⟨hf1, hf2⟩, hf3⟩ := hf
        rcases DataW.trod_slice hu h with ⟨rfl, rfl⟩ | ⟨a, len, cap, elems, rest, m, hm, rfl, rfl, _, hlc, _, hel, hx, _, _⟩
        · have := hbk.nil
          refine ⟨[.sl (P.cellsOf e) [] none], rvL_one ?_, by simp [Value.oneCell'], by simp only [Typ, hu]; exact ⟨[], rfl, by simp⟩, by simp only [wgL, wgD, wgEs]; omega, by simp [hf1]⟩
          unfold Rv
          exact ⟨none, 0, 0, rfl, ⟨rfl, Nat.le_refl _⟩, fun hc => absurd rfl hc, fun k hk => by cases hk⟩
        · simp only [Nat.add_right_cancel_iff] at hm
          subst hm
          obtain ⟨es, s1, s2, s3, s4⟩ := rd_elems (fun t cs x => rd_trod hbk hS n t cs x) (by simpa using hf2) a elems 0 (fun i hi => by simpa using hx i (by omega))
          have hb := hbk.slice (elems.map (·.1)) (rest.map (·.1))
          refine ⟨[.sl (P.cellsOf e) es none], rvL_one ?_, by simp [Value.oneCell'], by simp only [Typ, hu]; exact ⟨es, rfl, s3⟩, by simp only [wgL, wgD]; omega, by simp [hf1]⟩
          unfold Rv
          refine ⟨some a, len, cap, rfl, ⟨by omega, hlc⟩, fun hne => ⟨?_, ?_⟩, fun k hk => by cases hk⟩
          · have hpos : 0 < len := by
              rw [← hel, ← s1]
              exact List.length_pos_iff.2 hne
            have h0 := hx 0 hpos
            rw [List.getElem?_eq_getElem (by omega)] at h0
            obtain ⟨cs, hcs, _⟩ := Option.bind_eq_some_iff.1 h0
            obtain ⟨_, hlen, hcell⟩ := World.cells?_some hcs
            have h1 := hcell 0 hf3
            rw [List.getElem?_eq_getElem (by omega), Deep.add_add] at h1
            simp only [Nat.zero_mul, Nat.add_zero] at h1
            exact spot_none (a := a) h1
          · have s2' : RvEs (enW w) (P.cellsOf e) a.block a.off es := by simpa using s2
            exact s2'
      | struct fs =>
        obtain ⟨xs, m, hm, rfl, hlen, hxl, hx⟩ := DataW.trod_struct hu h
        simp only [Nat.add_right_cancel_iff] at hm
        subst hm
        simp only at hf
        obtain ⟨ds, s1, s2, s3, s4⟩ := rd_fields (fun t cs x => rd_trod hbk hS n t cs x) cs fs.toList 0 xs (by rw [hlen]; exact hf) (by simpa using hxl) (fun i f hi => hx i f (by simpa using hi))
        have hb := hbk.agg (xs.map (·.1))
        refine ⟨ds, by simpa using s1, by simpa using s2, by simp only [Typ, hu]; exact s3, by simp only; omega, hlen⟩
      | _ => cases hf
end

/-! ### What is known of a type's data -/
theorem typ_int {P : Program} {n : Nat} {t : TypeId} {k : IntKind} {ds : List DV} (hu : P.underlying t = some (.int k)) (h : Typ P n t ds) : ∃ z, ds = [.v (.int k z)] ∧ (Lit.int k z).wf = true := by
  cases n with
  | zero => exact h.elim
  | succ n => simp only [Typ, hu] at h; exact h
theorem typ_bool {P : Program} {n : Nat} {t : TypeId} {ds : List DV} (hu : P.underlying t = some .bool) (h : Typ P n t ds) : ∃ b, ds = [.v (.bool b)] := by
  cases n with
  | zero => exact h.elim
  | succ n => simp only [Typ, hu] at h; exact h
theorem typ_str {P : Program} {n : Nat} {t : TypeId} {ds : List DV} (hu : P.underlying t = some .string) (h : Typ P n t ds) : ∃ s : ByteArray, ds = [.v (.string s)] := by
  cases n with
  | zero => exact h.elim
  | succ n => simp only [Typ, hu] at h; exact h
theorem typ_sl {P : Program} {n : Nat} {t e : TypeId} {ds : List DV} (hu : P.underlying t = some (.slice e)) (h : Typ P n t ds) : ∃ m es, n = m + 1 ∧ ds = [.sl (P.cellsOf e) es none] ∧ ∀ cs ∈ es, Typ P m e cs := by
  cases n with
  | zero => exact h.elim
  | succ n =>
    simp only [Typ, hu] at h
    obtain ⟨es, h1, h2⟩ := h
    exact ⟨n, es, rfl, h1, h2⟩
theorem typ_st {P : Program} {n : Nat} {t : TypeId} {fs : Array Field} {ds : List DV} (hu : P.underlying t = some (.struct fs)) (h : Typ P n t ds) : ∃ m, n = m + 1 ∧ TypFs (Typ P m) (fs.toList.map (·.type)) ds := by
  cases n with
  | zero => exact h.elim
  | succ n =>
    simp only [Typ, hu] at h
    exact ⟨n, rfl, h⟩
theorem wf_i64 {z : Int} (h : (Lit.int .i64 z).wf = true) : -9223372036854775808 ≤ z ∧ z ≤ 9223372036854775807 := by
  simpa [Lit.wf, IntKind.min, IntKind.max, IntKind.signed, IntKind.bits] using h
end Dv
end Go.Proofs.Ytmphiikdhifhjaa
set_option maxRecDepth 100000
namespace Go.Proofs.Ytmphiikdhifhjaa
open Go Go.RowKit Dv Try

theorem cells_word : Try.prog.cellsOf 27 = 2 := by kernel_rfl
theorem cells_part : Try.prog.cellsOf 44 = 18 := by kernel_rfl

theorem typ_wd {n : Nat} {ds : List DV} (h : Typ Try.prog n 27 ds) : ∃ w : Wd, ds = dWd w ∧ w.wt ≤ wgL ds := by
  obtain ⟨m, _, hf⟩ := typ_st Try.underlying27 h
  obtain ⟨a, b, rfl, h1, c, d, rfl, h2, rfl⟩ := hf
  obtain ⟨s, rfl⟩ := typ_str Try.underlying9 h1
  obtain ⟨z, rfl, _⟩ := typ_int Try.underlying3 h2
  exact ⟨⟨s, z⟩, rfl, by simp [wgL, wgD, Wd.wt]⟩

theorem es_wds : ∀ {m : Nat} {es : List (List DV)}, (∀ cs ∈ es, Typ Try.prog m 27 cs) → ∃ l : List Wd, es = dWds l ∧ wdsWt l ≤ wgEs es
  | m, [], h => ⟨[], rfl, by simp [wdsWt, wgEs]⟩
  | m, cs :: r, h => by
    obtain ⟨w, rfl, hw⟩ := typ_wd (h cs (by simp))
    obtain ⟨l, rfl, hl⟩ := es_wds (m := m) (es := r) (fun c hc => h c (List.mem_cons_of_mem _ hc))
    exact ⟨w :: l, rfl, by simp only [wdsWt, wgEs]; omega⟩

theorem typ_wds {n : Nat} {ds : List DV} (h : Typ Try.prog n 22 ds) : ∃ l : List Wd, ds = [.sl 2 (dWds l) none] ∧ 64 + wdsWt l ≤ wgL ds := by
  obtain ⟨m, es, _, rfl, he⟩ := typ_sl Try.underlying22 h
  obtain ⟨l, rfl, hl⟩ := es_wds he
  rw [cells_word]
  exact ⟨l, rfl, by simp only [wgL, wgD]; omega⟩

theorem typ_i {n : Nat} {ds : List DV} (h : Typ Try.prog n 3 ds) : ∃ z, ds = [.v (.int .i64 z)] ∧ I64 z := by
  obtain ⟨z, rfl, hw⟩ := typ_int Try.underlying3 h
  exact ⟨z, rfl, wf_i64 hw⟩

theorem es_pts {m : Nat} (ih : ∀ k, k < m → ∀ ds, Typ Try.prog k 29 ds → ∃ t : Ty, ds = dTy t ∧ rngT t ∧ t.wt ≤ wgL ds) :
    ∀ {es : List (List DV)}, (∀ cs ∈ es, Typ Try.prog m 44 cs) → ∃ ps : Pts, es = dPts ps ∧ rngP ps ∧ ps.wt ≤ wgEs es
  | [], h => ⟨.nil, by simp [dPts], by simp [rngP], by simp [Pts.wt]⟩
  | cs :: r, h => by
    obtain ⟨ps, rfl, hr, hl⟩ := es_pts ih (es := r) (fun c hc => h c (List.mem_cons_of_mem _ hc))
    obtain ⟨k, rfl, hf⟩ := typ_st Try.underlying44 (h cs (by simp))
    obtain ⟨a1, b1, rfl, h1, a2, b2, rfl, h2, a3, b3, rfl, h3, a4, b4, rfl, h4, a5, b5, rfl, h5, a6, b6, rfl, h6, rfl⟩ := hf
    obtain ⟨nm, rfl, w1⟩ := typ_wd h1
    obtain ⟨bare, rfl⟩ := typ_bool Try.underlying4 h2
    obtain ⟨lab, rfl, w3⟩ := typ_wds h3
    obtain ⟨wide, rfl, r4⟩ := typ_i h4
    obtain ⟨k5, _, hf5⟩ := typ_st Try.underlying42 h5
    obtain ⟨c1, d1, rfl, g1, c2, d2, rfl, g2, c3, d3, rfl, g3, c4, d4, rfl, g4, rfl⟩ := hf5
    obtain ⟨ck, rfl, _⟩ := typ_i g1
    obtain ⟨cn, rfl, q2⟩ := typ_i g2
    obtain ⟨ca, rfl, _⟩ := typ_i g3
    obtain ⟨cl, rfl, w5⟩ := typ_wds g4
    obtain ⟨t, rfl, rt, wt⟩ := ih k (by omega) _ h6
    refine ⟨.cons ⟨nm, bare, lab, wide, ck, cn, ca, cl⟩ t ps, ?_, by simp only [rngP]; exact ⟨r4, q2, rt, hr⟩, ?_⟩
    · simp only [dPts, dPh, dWd, List.cons_append, List.nil_append, List.append_nil]
    · simp only [Pts.wt, Ph.wt, wgEs, wgL_append, wgL, wgD, dWd] at *
      simp only [Wd.wt] at *
      omega

theorem typ_ty : ∀ (n : Nat) (ds : List DV), Typ Try.prog n 29 ds → ∃ t : Ty, ds = dTy t ∧ rngT t ∧ t.wt ≤ wgL ds := by
  intro n
  induction n using Nat.strongRecOn with
  | _ n ih =>
    intro ds h
    obtain ⟨m, rfl, hf⟩ := typ_st Try.underlying29 h
    obtain ⟨a1, b1, rfl, h1, a2, b2, rfl, h2, a3, b3, rfl, h3, a4, b4, rfl, h4, a5, b5, rfl, h5, a6, b6, rfl, h6, a7, b7, rfl, h7, a8, b8, rfl, h8, rfl⟩ := hf
    obtain ⟨kind, rfl, _⟩ := typ_i h1
    obtain ⟨at', rfl, _⟩ := typ_i h2
    obtain ⟨lo, rfl, r3⟩ := typ_i h3
    obtain ⟨hi, rfl, r4⟩ := typ_i h4
    obtain ⟨most, rfl, r5⟩ := typ_i h5
    obtain ⟨names, rfl, w6⟩ := typ_wds h6
    obtain ⟨k, es, rfl, rfl, hes⟩ := typ_sl Try.underlying25 h7
    obtain ⟨ps, rfl, rp, wp⟩ := es_pts (fun j hj => ih j (by omega)) hes
    obtain ⟨nm, rfl, w8⟩ := typ_wd h8
    rw [cells_part]
    refine ⟨.mk ⟨kind, at', lo, hi, most, names, nm⟩ ps, ?_, by simp only [rngT]; exact ⟨r3, r4, r5, rp⟩, ?_⟩
    · simp only [dTy, dWd, List.cons_append, List.nil_append, List.append_nil]
    · simp only [Ty.wt, Hd.wt, wgL_append, wgL, wgD, dWd] at *
      simp only [Wd.wt] at *
      omega
end Go.Proofs.Ytmphiikdhifhjaa
namespace Go.Proofs.Ytmphiikdhifhjaa
namespace Dv
open Go Go.RowKit Go.ChangeShapes Go.WideShapes Go.ChangeAt
open Go.ChangeMaps (open_string shut_string)

section
variable {H : Type} {enc : TypeId × Value → H} {P : Program}

theorem trodAll_stays (hl : laidOutB P = true) {W W' : World} (hb : Below W.heap.size W W') : ∀ {ts : List TypeId} {vs : List Value} {ds : List (DataW H)} {ps : List MemPlace}, (∀ t ∈ ts, P.readableRec t = true ∧ t < P.types.size) →
    DataW.TrodAll enc P W 0 (fun _ => true) true ts vs ds ps → (∀ x ∈ ps, x.block < W.heap.size) → DataW.TrodAll enc P W' 0 (fun b => decide (b < W.heap.size)) true ts vs ds ps
  | [], [], [], _, _, h, _ => h
  | t :: ts, v :: vs, d :: ds, _, ht, ⟨p, q, h1, h2, e⟩, hlt => by
    subst e
    obtain ⟨r1, r2⟩ := ht t (by simp)
    exact ⟨p, q, Below.trod hl r1 r2 h1 hb (fun x hx => hlt x (List.mem_append_left _ hx)), trodAll_stays hl hb (fun t ht' => ht t (by simp [ht'])) h2 (fun x hx => hlt x (List.mem_append_right _ hx)), rfl⟩

/-- **What is asked behind the call of a law that returned true**, where nothing that was there has turned. -/
theorem law_post {f : Func} {s : ChangeSpec} {tb : TypeId} (hl : laidOutB P = true) (hres : f.resultTypes = #[tb]) (htb : P.underlying tb = some .bool) (hv : s.vars = []) (hts : ∀ t ∈ f.params.toList, P.readableRec t = true ∧ t < P.types.size)
    {W W' : World} {args : Array Value} {ds gs : List (DataW H)} {before : List MemPlace} (hW : DataW.Whole enc P f.params.toList s.vars false W args.toList ds gs before) (hfn : s.fn H ds = { results := [.lit (.bool true)], args := ds }) (hb : Below W.heap.size W W') :
    s.post enc P f false true false false W args (.bool true) W' := by
  have hW' := hW
  obtain ⟨p, q, hA, hV, rfl, hfz, hnd⟩ := hW
  rw [hv] at hV
  obtain ⟨rfl, rfl⟩ := trodVars_none hV
  refine ⟨ds, [], p ++ [], [], p, [], hW', ?_, ?_, ?_, hb.frame _, fun h => by cases h⟩
  · rw [List.append_nil, hfn, hres]
    exact trodAll_cons_mk (shut_bool htb _) trodAll_mk0
  · rw [List.append_nil, hfn]
    exact trodAll_stays hl hb hts hA (fun x hx => hW'.lt x (List.mem_append_left _ hx))
  · rw [List.append_nil, hfn, hv]
    rfl

/-- What was there stays. -/
theorem endd_below {w w' : World} {Φ : DV → List (List DV) → List TkE → Prop} {v : Value} (h : Endd false (enW w) w Φ v w') : Below w.heap.size w w' := by
  obtain ⟨hm, _⟩ := h
  refine ⟨hm.os, hm.tape, hm.output, hm.size, fun k hk => hm.block k hk ?_⟩
  rintro (h1 | ⟨y, h1, _⟩)
  · simp [enW] at h1
  · simp [enW] at h1

theorem calls_law {f : FuncId} {args : List DV} {vs : List Value} {w : World} (h : EvP P f args (.v (.bool true))) (hv : RvL (enW w) args vs) :
    Calls P f vs.toArray w fun e w' => e = .returned (.bool true) ∧ Below w.heap.size w w' := by
  refine (h (enW w) w vs (enW_env w) rfl hv).mono ?_
  rintro e w' ⟨v, rfl, he⟩
  have hb := endd_below he
  obtain ⟨_, _, d, os, E, _, _, _, _, hr, rfl⟩ := he
  unfold Rv at hr
  rw [hr.1]
  exact ⟨rfl, hb⟩

variable {W : World} {base : Nat} {S : List TypeId} {bk : DataW H → Nat}

/-- A struct that came in. -/
theorem arg_st (hbk : Bk bk) (hS : ∀ t ∈ S, flatOK P S t = true) {t : TypeId} {fs : Array Field} {v : Value} {d : DataW H} {ps : List MemPlace} (ht : t ∈ S) (hu : P.underlying t = some (.struct fs))
    (hval : Value.okWide P W .any base t v) (h : DataW.Trod enc P W 0 (fun _ => true) true t v d ps) : ∃ n ds, Rv (enW W) (.agg ds) v ∧ Typ P n t ds ∧ wgL ds ≤ 64 * bk d := by
  unfold Value.okWide at hval
  rw [hu] at hval
  obtain ⟨cs, rfl, _, _⟩ := hval
  obtain ⟨n, hn⟩ := h
  obtain ⟨ds, h1, h2, h3, h4, _⟩ := rd_trod hbk hS n t _ _ ht hn
  refine ⟨n, ds, ?_, h3, h4⟩
  unfold Rv
  exact ⟨cs.toList, by simp, h1, h2⟩
end
end Dv
end Go.Proofs.Ytmphiikdhifhjaa
namespace Go.Proofs.Ytmphiikdhifhjaa
open Go Go.RowKit Dv

theorem bk_all {H : Type} : ∀ l : List (DataW H), bkS Rows.uptoBulk l = Rows.uptoBulkAll l
  | [] => by simp [bkS, Rows.uptoBulkAll]
  | d :: r => by simp only [bkS, Rows.uptoBulkAll, bk_all r]
theorem bk_ok {H : Type} : Bk (Rows.uptoBulk (H := H)) where
  str := fun l => by simp [Rows.uptoBulk]
  lit := fun l => by cases l <;> simp [Rows.uptoBulk]
  nil := by simp [Rows.uptoBulk]
  slice := fun es sp => by simp only [Rows.uptoBulk, bk_all]; omega
  agg := fun l => by simp only [Rows.uptoBulk, bk_all]; omega
theorem bulk_le {H : Type} {l : List (DataW H)} (hk : Rows.uptoSmall H l = true) : Rows.uptoBulkAll l ≤ 1048576 := of_decide_eq_true hk

theorem laid_out : laidOutB Try.prog = true := by kernel_rfl
theorem own_knob : ownKnob Try.prog.godebug = none := by kernel_rfl

/-- The types that types and schemas are made of. -/
def tyS : List TypeId := [29, 22, 27, 9, 3, 25, 44, 4, 42]
theorem tyS_ok : ∀ t ∈ tyS, flatOK Try.prog tyS t = true := by
  have h : (tyS.all fun t => flatOK Try.prog tyS t) = true := by kernel_rfl
  exact fun t ht => List.all_eq_true.1 h t ht
end Go.Proofs.Ytmphiikdhifhjaa

set_option maxRecDepth 100000
namespace Go.Proofs.Ytmphiikdhifhjaa
open Go Go.RowKit Dv Try

def stripWd (w : Wd) : Wd := ⟨w.s, 0⟩
def stripHd (h : Hd) : Hd := ⟨h.kind, 0, h.lo, h.hi, h.most, plainW h.names, stripWd h.name⟩
def stripPh (p : Ph) : Ph := ⟨stripWd p.name, p.bare, plainW p.label, p.wide, p.ck, p.cn, 0, plainW p.cl⟩
mutual
def stripT : Ty → Ty
  | .mk h ps => .mk (stripHd h) (stripP ps)
def stripP : Pts → Pts
  | .nil => .nil
  | .cons p t r => .cons (stripPh p) (stripT t) (stripP r)
end

theorem plainW_wt (l : List Wd) : wdsWt (plainW l) = wdsWt l := by
  induction l with
  | nil => rfl
  | cons w r ih => simp only [plainW, List.map_cons, wdsWt, Wd.wt] at ih ⊢; rw [ih]
mutual
theorem stripT_wt : ∀ t : Ty, (stripT t).wt = t.wt
  | .mk h ps => by simp only [stripT, Ty.wt, Hd.wt, stripHd, stripWd, Wd.wt, plainW_wt, stripP_wt ps]
theorem stripP_wt : ∀ ps : Pts, (stripP ps).wt = ps.wt
  | .nil => by simp only [stripP]
  | .cons p t r => by simp only [stripP, Pts.wt, Ph.wt, stripPh, stripWd, Wd.wt, plainW_wt, stripT_wt t, stripP_wt r]
end
theorem stripP_len : ∀ ps : Pts, (stripP ps).len = ps.len
  | .nil => by simp only [stripP]
  | .cons p t r => by simp only [stripP, Pts.len, stripP_len r]
theorem stripP_get : ∀ {ps : Pts} {e : Nat} {p : Ph} {t : Ty}, ps.toList[e]? = some (p, t) → (stripP ps).toList[e]? = some (stripPh p, stripT t)
  | .nil, e, p, t, h => by simp [Pts.toList] at h
  | .cons q u r, 0, p, t, h => by
    simp only [Pts.toList, List.getElem?_cons_zero, Option.some.injEq, Prod.mk.injEq] at h
    obtain ⟨rfl, rfl⟩ := h
    simp [stripP, Pts.toList]
  | .cons q u r, e + 1, p, t, h => by
    simp only [Pts.toList, List.getElem?_cons_succ] at h
    simp only [stripP, Pts.toList, List.getElem?_cons_succ]
    exact stripP_get h

/-- The first e parts. -/
def Pts.take : Nat → Pts → Pts
  | 0, _ => .nil
  | _ + 1, .nil => .nil
  | e + 1, .cons p t r => .cons p t (r.take e)
theorem Pts.take_zero (ps : Pts) : ps.take 0 = .nil := by cases ps <;> rfl
theorem Pts.take_snoc : ∀ {ps : Pts} {e : Nat} {p : Ph} {t : Ty}, ps.toList[e]? = some (p, t) → dPts (ps.take e) ++ [dPh p (dTy t)] = dPts (ps.take (e + 1))
  | .nil, e, p, t, h => by simp [Pts.toList] at h
  | .cons q u r, 0, p, t, h => by
    simp only [Pts.toList, List.getElem?_cons_zero, Option.some.injEq, Prod.mk.injEq] at h
    obtain ⟨rfl, rfl⟩ := h
    simp [Pts.take, Pts.take_zero, dPts]
  | .cons q u r, e + 1, p, t, h => by
    simp only [Pts.toList, List.getElem?_cons_succ] at h
    simp only [Pts.take, dPts, List.cons_append]
    rw [Pts.take_snoc h]
theorem Pts.take_len : ∀ (ps : Pts) (e : Nat), e ≤ ps.len → (ps.take e).len = e
  | ps, 0, _ => by rw [Pts.take_zero]; rfl
  | .nil, e + 1, h => by simp [Pts.len] at h
  | .cons p t r, e + 1, h => by simp only [Pts.len, Pts.take] at h ⊢; rw [Pts.take_len r e (by omega)]
theorem Pts.take_all : ∀ ps : Pts, ps.take ps.len = ps
  | .nil => rfl
  | .cons p t r => by simp only [Pts.len, Pts.take, Pts.take_all r]

abbrev kstripSt (h : Hd) (ps qs : Pts) (n e : Nat) : St :=
  ⟨[(1, ⟨[], .loc 0 0⟩), (2, ⟨[], .loc 1 0⟩), (14, ⟨[], .sl 18 (dPts ps) none⟩), (15, ⟨[], .v (.int .i64 (dPts ps).length)⟩), (16, ⟨[], .v (.int .i64 e)⟩), (3, ⟨[], .sl 18 (dPts qs) (some 0)⟩)],
   [dTy (.mk (stripHd h) ps), [.v (.int .i64 0), .v (.int .i64 0), .v (.int .i64 0), .v (.int .i64 0), .v (.int .i64 0), .v (.slice none 0 0), .v (.slice none 0 0), .v (.string ByteArray.empty), .v (.int .i64 0)]], [⟨n, 44, 18⟩]⟩

theorem kstrip_step (k : Nat) (ih : ∀ t : Ty, t.wt ≤ k → t.wt ≤ 1099511627776 → EvP Try.prog 12 [.agg (dTy t)] (.agg (dTy (stripT t)))) (h : Hd) (ps : Pts) (hk : ps.wt ≤ k) (hbig : (Ty.mk h ps).wt ≤ 1099511627776) :
    EvP Try.prog 12 [.agg (dTy (.mk h ps))] (.agg (dTy (stripT (.mk h ps)))) := by
  simp only [Ty.wt, Hd.wt] at hbig
  have hpl := ps.wt_len
  refine ev_go (P := Try.prog) tt tt_ok 5000 46 [.cell 2 29] Try.func12 rfl Try.ntmps12 rfl (Nat.le_of_ble_eq_true rfl) (fun E9 w9 hn9 hm9 => ?_)
  refine call_p (enters_of Try.func22 (by decide +kernel) rfl) (words_spec h.names (by omega)) (by repeat' (first | exact rfl | exact trivial | exact Or.inr (Or.inl ⟨_, rfl⟩) | exact Or.inr ⟨_, rfl⟩ | exact Or.inl ⟨rfl, rfl⟩ | exact Or.inl rfl | refine Or.inr ⟨_, _, rfl, Nat.zero_le _, rfl, ?_⟩ | refine ⟨_, _, rfl, ?_, ?_⟩ | refine ⟨_, rfl, ?_⟩ | refine Or.inr (Or.inr (Or.inr ⟨_, _, rfl, ?_⟩)) | exact Or.inl rfl | refine Or.inr ?_)) rfl ?_
  refine loop_i (fun j st => ∃ e : Nat, st = kstripSt h ps ((stripP ps).take e) e e ∧ e ≤ ps.len ∧ j = ps.len - e) ps.len (kstripSt h ps .nil 0 0) (weak_tok ⟨0, 44, 18⟩ rfl ⟨_, rfl⟩ rfl (by repeat' (first | exact rfl | exact we_rfl rfl | refine ⟨_, _, rfl, ?_, ?_⟩)) rfl rfl (by repeat' (first | exact trivial | exact we_rfl rfl | exact we_rfl rfl | exact we_tok (Nat.le_refl _) rfl | refine ⟨⟨_, rfl, ?_⟩, ?_⟩))) ⟨0, by rw [Pts.take_zero], by omega, by omega⟩ ?_
  rintro j st ⟨e, rfl, he, rfl⟩
  refine br (fun hL => ?_) (fun hL => ?_)
  · have hlt : e < ps.len := by simpa [dPts_len] using hL
    obtain ⟨p, t, hx⟩ := Pts.get_lt hlt
    have hwt := Pts.wt_mem (List.mem_of_getElem? hx)
    have hsn := Pts.take_snoc (stripP_get hx)
    have htl := Pts.take_len (stripP ps) e (by rw [stripP_len]; omega)
    have hpw : p.wt + 0 ≤ ps.wt := by omega
    simp only [Ph.wt] at hpw
    have hih := ih t (by omega) (by omega)
    obtain ⟨u, us⟩ := t
    refine ⟨_, ⟨by omega, dPts_get hx⟩, ?_⟩
    refine call_p (enters_of Try.func22 (by decide +kernel) rfl) (words_spec p.label (by omega)) (by repeat' (first | exact rfl | exact trivial | exact Or.inr (Or.inl ⟨_, rfl⟩) | exact Or.inr ⟨_, rfl⟩ | exact Or.inl ⟨rfl, rfl⟩ | exact Or.inl rfl | refine Or.inr ⟨_, _, rfl, Nat.zero_le _, rfl, ?_⟩ | refine ⟨_, _, rfl, ?_, ?_⟩ | refine ⟨_, rfl, ?_⟩ | refine Or.inr (Or.inr (Or.inr ⟨_, _, rfl, ?_⟩)) | exact Or.inl rfl | refine Or.inr ?_)) rfl ?_
    refine call_p (enters_of Try.func22 (by decide +kernel) rfl) (words_spec p.cl (by omega)) (by repeat' (first | exact rfl | exact trivial | exact Or.inr (Or.inl ⟨_, rfl⟩) | exact Or.inr ⟨_, rfl⟩ | exact Or.inl ⟨rfl, rfl⟩ | exact Or.inl rfl | refine Or.inr ⟨_, _, rfl, Nat.zero_le _, rfl, ?_⟩ | refine ⟨_, _, rfl, ?_, ?_⟩ | refine ⟨_, rfl, ?_⟩ | refine Or.inr (Or.inr (Or.inr ⟨_, _, rfl, ?_⟩)) | exact Or.inl rfl | refine Or.inr ?_)) rfl ?_
    rw [show stripT (.mk u us) = .mk (stripHd u) (stripP us) by simp only [stripT]] at hih hsn
    refine call_p (enters_of Try.func12 (by decide +kernel) rfl) (hih) (by repeat' (first | exact rfl | exact trivial | exact Or.inr (Or.inl ⟨_, rfl⟩) | exact Or.inr ⟨_, rfl⟩ | exact Or.inl ⟨rfl, rfl⟩ | exact Or.inl rfl | refine Or.inr ⟨_, _, rfl, Nat.zero_le _, rfl, ?_⟩ | refine ⟨_, _, rfl, ?_, ?_⟩ | refine ⟨_, rfl, ?_⟩ | refine Or.inr (Or.inr (Or.inr ⟨_, _, rfl, ?_⟩)) | exact Or.inl rfl | refine Or.inr ?_)) rfl ?_
    refine ⟨by simp only [dPts_len, htl], ⟨by simp only [dPts_len, htl, maxLen, List.length_cons, List.length_nil]; omega, by simp only [dPts_len, htl, List.length_cons, List.length_nil]; omega⟩, ?_⟩
    refine ⟨kstripSt h ps ((stripP ps).take (e + 1)) (e + 1) (e + 1), (weak_mk ⟨_, rfl⟩ (by repeat' (first | exact rfl | exact we_rfl rfl | refine ⟨_, _, rfl, ?_, ?_⟩)) rfl rfl rfl (by repeat' (first | exact trivial | exact we_rfl rfl | exact we_int (nxt hlt (by omega)) | exact we_sl hsn rfl | refine ⟨⟨_, rfl, ?_⟩, ?_⟩))), ps.len - (e + 1), by omega, e + 1, rfl, by omega, rfl⟩
  · have hge : e = ps.len := by simp [dPts_len] at hL; omega
    subst hge
    have ha := Pts.take_all (stripP ps)
    rw [stripP_len] at ha
    rw [ha]
    refine ⟨_, ?_, rfl⟩
    rw [show stripT (.mk h ps) = .mk (stripHd h) (stripP ps) by simp only [stripT]]
    exact (by repeat' (first | exact rfl | exact trivial | exact Or.inr (Or.inl ⟨_, rfl⟩) | exact Or.inr ⟨_, rfl⟩ | exact Or.inl ⟨rfl, rfl⟩ | exact Or.inl rfl | refine Or.inr ⟨_, _, rfl, Nat.zero_le _, rfl, ?_⟩ | refine ⟨_, _, rfl, ?_, ?_⟩ | refine ⟨_, rfl, ?_⟩ | refine Or.inr (Or.inr (Or.inr ⟨_, _, rfl, ?_⟩)) | exact Or.inl rfl | refine Or.inr ?_))

theorem kstrip_any : ∀ k (t : Ty), t.wt ≤ k → t.wt ≤ 1099511627776 → EvP Try.prog 12 [.agg (dTy t)] (.agg (dTy (stripT t)))
  | 0, t, hk, _ => by have := t.wt_pos; omega
  | k + 1, .mk h ps, hk, hbig => by
    have hk' := hk
    simp only [Ty.wt, Hd.wt] at hk'
    exact kstrip_step k (kstrip_any k) h ps (by omega) hbig
/-- **kinds.Strip.** -/
theorem kstrip_spec (t : Ty) (hbig : t.wt ≤ 1099511627776) : EvP Try.prog 12 [.agg (dTy t)] (.agg (dTy (stripT t))) := kstrip_any t.wt t (Nat.le_refl _) hbig
end Go.Proofs.Ytmphiikdhifhjaa
set_option maxRecDepth 100000
namespace Go.Proofs.Ytmphiikdhifhjaa
open Go Go.RowKit Dv Try

/-- A schema. -/
structure Sch where
  levels : List Wd
  order : List (Wd × Wd)
  types : List (Wd × Ty)
  root : Ty

def dPr (p : Wd × Wd) : List DV := [.v (.string p.1.s), .v (.int .i64 p.1.a), .v (.string p.2.s), .v (.int .i64 p.2.a)]
def dPrs (l : List (Wd × Wd)) : List (List DV) := l.map dPr
def dNm (x : Wd × Ty) : List DV := .v (.string x.1.s) :: .v (.int .i64 x.1.a) :: dTy x.2
def dNms (l : List (Wd × Ty)) : List (List DV) := l.map dNm
def dSch (s : Sch) : List DV := .sl 2 (dWds s.levels) none :: .sl 4 (dPrs s.order) none :: .sl 11 (dNms s.types) none :: dTy s.root

def prsWt : List (Wd × Wd) → Nat
  | [] => 0
  | p :: r => p.1.wt + p.2.wt + prsWt r
def nmsWt : List (Wd × Ty) → Nat
  | [] => 0
  | p :: r => p.1.wt + p.2.wt + nmsWt r
def Sch.wt (s : Sch) : Nat := wdsWt s.levels + prsWt s.order + nmsWt s.types + s.root.wt

theorem dPrs_len (l : List (Wd × Wd)) : (dPrs l).length = l.length := by simp [dPrs]
theorem dNms_len (l : List (Wd × Ty)) : (dNms l).length = l.length := by simp [dNms]
theorem dPrs_get {l : List (Wd × Wd)} {j : Nat} {p : Wd × Wd} (h : l[j]? = some p) : (dPrs l)[j]? = some (dPr p) := by simp [dPrs, h]
theorem dNms_get {l : List (Wd × Ty)} {j : Nat} {p : Wd × Ty} (h : l[j]? = some p) : (dNms l)[j]? = some (dNm p) := by simp [dNms, h]
theorem prsWt_len : ∀ l : List (Wd × Wd), 128 * l.length ≤ prsWt l
  | [] => Nat.le_refl _
  | p :: r => by have := prsWt_len r; simp only [List.length_cons, prsWt, Wd.wt]; omega
theorem nmsWt_len : ∀ l : List (Wd × Ty), 256 * l.length ≤ nmsWt l
  | [] => Nat.le_refl _
  | p :: r => by have := nmsWt_len r; have := p.2.wt_pos; simp only [List.length_cons, nmsWt, Wd.wt]; omega
theorem prsWt_mem : ∀ {l : List (Wd × Wd)} {p : Wd × Wd}, p ∈ l → p.1.wt + p.2.wt ≤ prsWt l
  | x :: r, p, h => by
    rcases List.mem_cons.1 h with h | h
    · subst h; simp only [prsWt]; omega
    · have := prsWt_mem h; simp only [prsWt]; omega
theorem nmsWt_mem : ∀ {l : List (Wd × Ty)} {p : Wd × Ty}, p ∈ l → p.1.wt + p.2.wt ≤ nmsWt l
  | x :: r, p, h => by
    rcases List.mem_cons.1 h with h | h
    · subst h; simp only [nmsWt]; omega
    · have := nmsWt_mem h; simp only [nmsWt]; omega

def stripPr (p : Wd × Wd) : Wd × Wd := (stripWd p.1, stripWd p.2)
def stripNm (p : Wd × Ty) : Wd × Ty := (stripWd p.1, stripT p.2)
def stripS (s : Sch) : Sch := ⟨plainW s.levels, s.order.map stripPr, s.types.map stripNm, stripT s.root⟩

theorem map_snoc {α β : Type} (f : α → β) {l : List α} {e : Nat} {x : α} (h : l[e]? = some x) : (l.map f).take e ++ [f x] = (l.map f).take (e + 1) := by
  rw [List.take_add_one]; simp [h]
theorem dPrs_snoc {l : List (Wd × Wd)} {e : Nat} {x : Wd × Wd} (h : l[e]? = some x) : dPrs ((l.map stripPr).take e) ++ [dPr (stripPr x)] = dPrs ((l.map stripPr).take (e + 1)) := by
  rw [← map_snoc stripPr h]; simp [dPrs]
theorem dNms_snoc {l : List (Wd × Ty)} {e : Nat} {x : Wd × Ty} (h : l[e]? = some x) : dNms ((l.map stripNm).take e) ++ [dNm (stripNm x)] = dNms ((l.map stripNm).take (e + 1)) := by
  rw [← map_snoc stripNm h]; simp [dNms]
theorem dWds_snocP {l : List Wd} {e : Nat} {x : Wd} (h : l[e]? = some x) : dWds ((plainW l).take e) ++ [dWd (stripWd x)] = dWds ((plainW l).take (e + 1)) := by
  unfold plainW
  rw [← map_snoc (fun w : Wd => (⟨w.s, 0⟩ : Wd)) h]; simp [dWds, stripWd]

abbrev ustripS1 (s : Sch) (n e : Nat) : St :=
  ⟨[(1, ⟨[], .loc 0 0⟩), (2, ⟨[], .loc 1 0⟩), (3, ⟨[], .loc 2 0⟩), (11, ⟨[], .sl 2 (dWds s.levels) none⟩), (12, ⟨[], .v (.int .i64 (dWds s.levels).length)⟩), (13, ⟨[], .v (.int .i64 e)⟩)], [dSch s, [.v (.slice none 0 0), .v (.slice none 0 0), .v (.slice none 0 0), .v (.int .i64 0), .v (.int .i64 0), .v (.int .i64 0), .v (.int .i64 0), .v (.int .i64 0), .v (.slice none 0 0), .v (.slice none 0 0), .v (.string ByteArray.empty), .v (.int .i64 0)], [.sl 2 (dWds ((plainW s.levels).take e)) (some 0), .v (.slice none 0 0), .v (.slice none 0 0), .v (.int .i64 0), .v (.int .i64 0), .v (.int .i64 0), .v (.int .i64 0), .v (.int .i64 0), .v (.slice none 0 0), .v (.slice none 0 0), .v (.string ByteArray.empty), .v (.int .i64 0)]], [⟨n, 27, 2⟩]⟩
abbrev ustripS2 (s : Sch) (m n e : Nat) : St :=
  ⟨[(1, ⟨[], .loc 0 0⟩), (2, ⟨[], .loc 1 0⟩), (3, ⟨[], .loc 2 0⟩), (27, ⟨[], .sl 4 (dPrs s.order) none⟩), (28, ⟨[], .v (.int .i64 (dPrs s.order).length)⟩), (29, ⟨[], .v (.int .i64 e)⟩)], [dSch s, [.v (.slice none 0 0), .v (.slice none 0 0), .v (.slice none 0 0), .v (.int .i64 0), .v (.int .i64 0), .v (.int .i64 0), .v (.int .i64 0), .v (.int .i64 0), .v (.slice none 0 0), .v (.slice none 0 0), .v (.string ByteArray.empty), .v (.int .i64 0)], [.sl 2 (dWds (plainW s.levels)) (some 0), .sl 4 (dPrs ((s.order.map stripPr).take e)) (some 1), .v (.slice none 0 0), .v (.int .i64 0), .v (.int .i64 0), .v (.int .i64 0), .v (.int .i64 0), .v (.int .i64 0), .v (.slice none 0 0), .v (.slice none 0 0), .v (.string ByteArray.empty), .v (.int .i64 0)]], [⟨m, 27, 2⟩, ⟨n, 46, 4⟩]⟩
abbrev ustripS3 (s : Sch) (m q n e : Nat) : St :=
  ⟨[(1, ⟨[], .loc 0 0⟩), (2, ⟨[], .loc 1 0⟩), (3, ⟨[], .loc 2 0⟩), (49, ⟨[], .sl 11 (dNms s.types) none⟩), (50, ⟨[], .v (.int .i64 (dNms s.types).length)⟩), (51, ⟨[], .v (.int .i64 e)⟩)], [dSch s, [.v (.slice none 0 0), .v (.slice none 0 0), .v (.slice none 0 0), .v (.int .i64 0), .v (.int .i64 0), .v (.int .i64 0), .v (.int .i64 0), .v (.int .i64 0), .v (.slice none 0 0), .v (.slice none 0 0), .v (.string ByteArray.empty), .v (.int .i64 0)], [.sl 2 (dWds (plainW s.levels)) (some 0), .sl 4 (dPrs (s.order.map stripPr)) (some 1), .sl 11 (dNms ((s.types.map stripNm).take e)) (some 2), .v (.int .i64 0), .v (.int .i64 0), .v (.int .i64 0), .v (.int .i64 0), .v (.int .i64 0), .v (.slice none 0 0), .v (.slice none 0 0), .v (.string ByteArray.empty), .v (.int .i64 0)]], [⟨m, 27, 2⟩, ⟨q, 46, 4⟩, ⟨n, 39, 11⟩]⟩

theorem ustrip_spec (s : Sch) (hbig : s.wt ≤ 1099511627776) : EvP Try.prog 6 [.agg (dSch s)] (.agg (dSch (stripS s))) := by
  have h1 := wdsWt_len s.levels
  have h2 := prsWt_len s.order
  have h3 := nmsWt_len s.types
  simp only [Sch.wt] at hbig
  have hroot := kstrip_spec s.root (by omega)
  obtain ⟨levels, order, types, ⟨h, ps⟩⟩ := s
  simp only at h1 h2 h3 hbig hroot
  refine ev_go (P := Try.prog) tt tt_ok 5000 74 [.cell 2 31] Try.func6 rfl Try.ntmps6 rfl (Nat.le_of_ble_eq_true rfl) (fun E9 w9 hn9 hm9 => ?_)
  refine loop_i (fun j st => ∃ e : Nat, st = ustripS1 ⟨levels, order, types, .mk h ps⟩ e e ∧ e ≤ levels.length ∧ j = levels.length - e) levels.length (ustripS1 ⟨levels, order, types, .mk h ps⟩ 0 0) (weak_bt 3 ⟨0, 27, 2⟩ rfl rfl rfl (by repeat' (first | exact rfl | exact we_rfl rfl | exact we_tok (Nat.le_refl _) rfl | refine ⟨_, _, rfl, ?_, ?_⟩)) rfl rfl (by repeat' (first | exact trivial | exact we_rfl rfl | refine ⟨⟨_, rfl, ?_⟩, ?_⟩))) ⟨0, rfl, by omega, by omega⟩ ?_
  rintro j st ⟨e, rfl, he, rfl⟩
  refine br (fun hL => ?_) (fun hL => ?_)
  · have hlt : e < levels.length := by simpa [dWds_len] using hL
    obtain ⟨w, hw⟩ : ∃ w, levels[e]? = some w := ⟨_, List.getElem?_eq_getElem hlt⟩
    have hsn := dWds_snocP hw
    have htl : ((plainW levels).take e).length = e := by simp [plainW]; omega
    refine ⟨dWd w, ⟨by omega, dWds_get hw⟩, ?_⟩
    refine ⟨by simp only [dWds_len, htl], ⟨by simp only [dWds_len, htl, maxLen, List.length_cons, List.length_nil]; omega, by simp only [dWds_len, htl, List.length_cons, List.length_nil]; omega⟩, ?_⟩
    refine ⟨ustripS1 ⟨levels, order, types, .mk h ps⟩ (e + 1) (e + 1), (weak_b 3 rfl (by repeat' (first | exact rfl | exact we_rfl rfl | exact we_int (nxt hlt (by omega)) | exact we_sl hsn rfl | refine ⟨_, _, rfl, ?_, ?_⟩)) rfl rfl rfl (by repeat' (first | exact trivial | exact we_rfl rfl | exact we_int (nxt hlt (by omega)) | exact we_sl hsn rfl | refine ⟨⟨_, rfl, ?_⟩, ?_⟩))), levels.length - (e + 1), by omega, e + 1, rfl, by omega, rfl⟩
  have hge : e = levels.length := by simp [dWds_len] at hL; omega
  subst hge
  have ha : (plainW levels).take levels.length = plainW levels := List.take_of_length_le (by simp [plainW])
  refine loop_i (fun j st => ∃ e : Nat, st = ustripS2 ⟨levels, order, types, .mk h ps⟩ levels.length e e ∧ e ≤ order.length ∧ j = order.length - e) order.length (ustripS2 ⟨levels, order, types, .mk h ps⟩ levels.length 0 0) (weak_bt 3 ⟨0, 46, 4⟩ rfl rfl rfl (by repeat' (first | exact rfl | exact we_rfl rfl | exact we_sl (by rw [ha]) rfl | exact we_tok (Nat.le_refl _) rfl | refine ⟨_, _, rfl, ?_, ?_⟩)) rfl rfl (by repeat' (first | exact trivial | exact we_rfl rfl | exact we_sl (by rw [ha]) rfl | refine ⟨⟨_, rfl, ?_⟩, ?_⟩))) ⟨0, rfl, by omega, by omega⟩ ?_
  rintro j st ⟨e, rfl, he, rfl⟩
  refine br (fun hL => ?_) (fun hL => ?_)
  · have hlt : e < order.length := by simpa [dPrs_len] using hL
    obtain ⟨w, hw⟩ : ∃ w, order[e]? = some w := ⟨_, List.getElem?_eq_getElem hlt⟩
    have hsn := dPrs_snoc hw
    have htl : ((order.map stripPr).take e).length = e := by simp; omega
    refine ⟨dPr w, ⟨by omega, dPrs_get hw⟩, ?_⟩
    refine ⟨by simp only [dPrs_len, htl], ⟨by simp only [dPrs_len, htl, maxLen, List.length_cons, List.length_nil]; omega, by simp only [dPrs_len, htl, List.length_cons, List.length_nil]; omega⟩, ?_⟩
    refine ⟨ustripS2 ⟨levels, order, types, .mk h ps⟩ levels.length (e + 1) (e + 1), (weak_b 3 rfl (by repeat' (first | exact rfl | exact we_rfl rfl | exact we_int (nxt hlt (by omega)) | exact we_sl hsn rfl | refine ⟨_, _, rfl, ?_, ?_⟩)) rfl rfl rfl (by repeat' (first | exact trivial | exact we_rfl rfl | exact we_int (nxt hlt (by omega)) | exact we_sl hsn rfl | refine ⟨⟨_, rfl, ?_⟩, ?_⟩))), order.length - (e + 1), by omega, e + 1, rfl, by omega, rfl⟩
  have hge : e = order.length := by simp [dPrs_len] at hL; omega
  subst hge
  have hb : (order.map stripPr).take order.length = order.map stripPr := List.take_of_length_le (by simp)
  refine loop_i (fun j st => ∃ e : Nat, st = ustripS3 ⟨levels, order, types, .mk h ps⟩ levels.length order.length e e ∧ e ≤ types.length ∧ j = types.length - e) types.length (ustripS3 ⟨levels, order, types, .mk h ps⟩ levels.length order.length 0 0) (weak_bt 3 ⟨0, 39, 11⟩ rfl rfl rfl (by repeat' (first | exact rfl | exact we_rfl rfl | exact we_sl (by rw [hb]) rfl | exact we_tok (Nat.le_refl _) rfl | refine ⟨_, _, rfl, ?_, ?_⟩)) rfl rfl (by repeat' (first | exact trivial | exact we_rfl rfl | exact we_sl (by rw [hb]) rfl | refine ⟨⟨_, rfl, ?_⟩, ?_⟩))) ⟨0, rfl, by omega, by omega⟩ ?_
  rintro j st ⟨e, rfl, he, rfl⟩
  refine br (fun hL => ?_) (fun hL => ?_)
  · have hlt : e < types.length := by simpa [dNms_len] using hL
    obtain ⟨w, hw⟩ : ∃ w, types[e]? = some w := ⟨_, List.getElem?_eq_getElem hlt⟩
    have hsn := dNms_snoc hw
    have hwt := nmsWt_mem (List.mem_of_getElem? hw)
    have htl : ((types.map stripNm).take e).length = e := by simp; omega
    have hst := kstrip_spec w.2 (by omega)
    obtain ⟨w, u, us⟩ := w
    refine ⟨dNm (w, .mk u us), ⟨by omega, dNms_get hw⟩, ?_⟩
    rw [show stripT (.mk u us) = .mk (stripHd u) (stripP us) by simp only [stripT]] at hst
    have hsn' : dNms ((types.map stripNm).take e) ++ [dNm (stripWd w, .mk (stripHd u) (stripP us))] = dNms ((types.map stripNm).take (e + 1)) := by
      rw [← hsn]; simp only [stripNm, stripT]
    refine drawG_s mo (by decide +kernel) ?_
    refine callD_p (enters_of Try.func12 (by decide +kernel) rfl) (hst) (by repeat' (first | exact rfl | exact trivial | exact Or.inr (Or.inl ⟨_, rfl⟩) | exact Or.inr ⟨_, rfl⟩ | exact Or.inl ⟨rfl, rfl⟩ | exact Or.inl rfl | refine Or.inr ⟨_, _, rfl, Nat.zero_le _, rfl, ?_⟩ | refine ⟨_, _, rfl, ?_, ?_⟩ | refine ⟨_, rfl, ?_⟩ | refine Or.inr (Or.inr (Or.inr ⟨_, _, rfl, ?_⟩)) | exact Or.inl rfl | refine Or.inr ?_)) rfl ?_
    refine ⟨by simp only [dNms_len, htl], ⟨by simp only [dNms_len, htl, maxLen, List.length_cons, List.length_nil]; omega, by simp only [dNms_len, htl, List.length_cons, List.length_nil]; omega⟩, ?_⟩
    refine ⟨ustripS3 ⟨levels, order, types, .mk h ps⟩ levels.length order.length (e + 1) (e + 1), (weak_b 3 rfl (by repeat' (first | exact rfl | exact we_rfl rfl | exact we_int (nxt hlt (by omega)) | exact we_sl hsn' rfl | refine ⟨_, _, rfl, ?_, ?_⟩)) rfl rfl rfl (by repeat' (first | exact trivial | exact we_rfl rfl | exact we_int (nxt hlt (by omega)) | exact we_sl hsn' rfl | refine ⟨⟨_, rfl, ?_⟩, ?_⟩))), types.length - (e + 1), by omega, e + 1, rfl, by omega, rfl⟩
  have hge : e = types.length := by simp [dNms_len] at hL; omega
  subst hge
  have hc : (types.map stripNm).take types.length = types.map stripNm := List.take_of_length_le (by simp)
  rw [show stripT (.mk h ps) = .mk (stripHd h) (stripP ps) by simp only [stripT]] at hroot
  refine call_p (enters_of Try.func12 (by decide +kernel) rfl) (hroot) (by repeat' (first | exact rfl | exact trivial | exact Or.inr (Or.inl ⟨_, rfl⟩) | exact Or.inr ⟨_, rfl⟩ | exact Or.inl ⟨rfl, rfl⟩ | exact Or.inl rfl | refine Or.inr ⟨_, _, rfl, Nat.zero_le _, rfl, ?_⟩ | refine ⟨_, _, rfl, ?_, ?_⟩ | refine ⟨_, rfl, ?_⟩ | refine Or.inr (Or.inr (Or.inr ⟨_, _, rfl, ?_⟩)) | exact Or.inl rfl | refine Or.inr ?_)) rfl ?_
  refine ⟨_, ?_, rfl⟩
  rw [show stripS ⟨levels, order, types, .mk h ps⟩ = ⟨plainW levels, order.map stripPr, types.map stripNm, .mk (stripHd h) (stripP ps)⟩ by simp only [stripS, stripT]]
  rw [hc]
  exact (by repeat' (first | exact rfl | exact trivial | exact Or.inr (Or.inl ⟨_, rfl⟩) | exact Or.inr ⟨_, rfl⟩ | exact Or.inl ⟨rfl, rfl⟩ | exact Or.inl rfl | refine Or.inr ⟨_, _, rfl, Nat.zero_le _, rfl, ?_⟩ | refine ⟨_, _, rfl, ?_, ?_⟩ | refine ⟨_, rfl, ?_⟩ | refine Or.inr (Or.inr (Or.inr ⟨_, _, rfl, ?_⟩)) | exact Or.inl rfl | refine Or.inr ?_))
end Go.Proofs.Ytmphiikdhifhjaa
set_option maxRecDepth 100000
namespace Go.Proofs.Ytmphiikdhifhjaa
open Go Go.RowKit Dv Try

/-- All numbers of a schema's types are ints. -/
def rngS (s : Sch) : Prop := (∀ x ∈ s.types, rngT x.2) ∧ rngT s.root

theorem cells_pair : Try.prog.cellsOf 46 = 4 := by kernel_rfl
theorem cells_named : Try.prog.cellsOf 39 = 11 := by kernel_rfl

theorem typ_pr {n : Nat} {ds : List DV} (h : Typ Try.prog n 46 ds) : ∃ p : Wd × Wd, ds = dPr p ∧ p.1.wt + p.2.wt ≤ wgL ds := by
  obtain ⟨m, _, hf⟩ := typ_st Try.underlying46 h
  obtain ⟨a, b, rfl, h1, c, d, rfl, h2, rfl⟩ := hf
  obtain ⟨x, rfl, w1⟩ := typ_wd h1
  obtain ⟨y, rfl, w2⟩ := typ_wd h2
  exact ⟨(x, y), rfl, by simp only [wgL_append, wgL]; omega⟩
theorem typ_nm {n : Nat} {ds : List DV} (h : Typ Try.prog n 39 ds) : ∃ p : Wd × Ty, ds = dNm p ∧ rngT p.2 ∧ p.1.wt + p.2.wt ≤ wgL ds := by
  obtain ⟨m, _, hf⟩ := typ_st Try.underlying39 h
  obtain ⟨a, b, rfl, h1, c, d, rfl, h2, rfl⟩ := hf
  obtain ⟨x, rfl, w1⟩ := typ_wd h1
  obtain ⟨y, rfl, r2, w2⟩ := typ_ty _ _ h2
  exact ⟨(x, y), by simp [dNm, dWd], r2, by simp only [wgL_append, wgL]; omega⟩
theorem es_prs : ∀ {m : Nat} {es : List (List DV)}, (∀ cs ∈ es, Typ Try.prog m 46 cs) → ∃ l : List (Wd × Wd), es = dPrs l ∧ prsWt l ≤ wgEs es
  | m, [], h => ⟨[], rfl, by simp [prsWt, wgEs]⟩
  | m, cs :: r, h => by
    obtain ⟨w, rfl, hw⟩ := typ_pr (h cs (by simp))
    obtain ⟨l, rfl, hl⟩ := es_prs (m := m) (es := r) (fun c hc => h c (List.mem_cons_of_mem _ hc))
    exact ⟨w :: l, rfl, by simp only [prsWt, wgEs]; omega⟩
theorem es_nms : ∀ {m : Nat} {es : List (List DV)}, (∀ cs ∈ es, Typ Try.prog m 39 cs) → ∃ l : List (Wd × Ty), es = dNms l ∧ (∀ x ∈ l, rngT x.2) ∧ nmsWt l ≤ wgEs es
  | m, [], h => ⟨[], rfl, by simp, by simp [nmsWt, wgEs]⟩
  | m, cs :: r, h => by
    obtain ⟨w, rfl, hr, hw⟩ := typ_nm (h cs (by simp))
    obtain ⟨l, rfl, hlr, hl⟩ := es_nms (m := m) (es := r) (fun c hc => h c (List.mem_cons_of_mem _ hc))
    refine ⟨w :: l, rfl, fun x hx => ?_, by simp only [nmsWt, wgEs]; omega⟩
    rcases List.mem_cons.1 hx with rfl | hx
    · exact hr
    · exact hlr x hx

theorem typ_sch {n : Nat} {ds : List DV} (h : Typ Try.prog n 31 ds) : ∃ s : Sch, ds = dSch s ∧ rngS s ∧ s.wt ≤ wgL ds := by
  obtain ⟨m, _, hf⟩ := typ_st Try.underlying31 h
  obtain ⟨a1, b1, rfl, h1, a2, b2, rfl, h2, a3, b3, rfl, h3, a4, b4, rfl, h4, rfl⟩ := hf
  obtain ⟨l1, rfl, w1⟩ := typ_wds h1
  obtain ⟨m2, es2, _, rfl, he2⟩ := typ_sl Try.underlying23 h2
  obtain ⟨l2, rfl, w2⟩ := es_prs he2
  obtain ⟨m3, es3, _, rfl, he3⟩ := typ_sl Try.underlying24 h3
  obtain ⟨l3, rfl, r3, w3⟩ := es_nms he3
  obtain ⟨t, rfl, r4, w4⟩ := typ_ty _ _ h4
  rw [cells_pair, cells_named]
  refine ⟨⟨l1, l2, l3, t⟩, by simp [dSch], ⟨r3, r4⟩, ?_⟩
  simp only [Sch.wt, wgL_append, wgL, wgD] at *
  omega
end Go.Proofs.Ytmphiikdhifhjaa
namespace Go.Proofs.Ytmphiikdhifhjaa
open Go Go.RowKit Dv
def tySS : List TypeId := 31 :: 23 :: 46 :: 24 :: 39 :: tyS
theorem tySS_ok : ∀ t ∈ tySS, flatOK Try.prog tySS t = true := by
  have h : (tySS.all fun t => flatOK Try.prog tySS t) = true := by kernel_rfl
  exact fun t ht => List.all_eq_true.1 h t ht
end Go.Proofs.Ytmphiikdhifhjaa
set_option maxRecDepth 100000
namespace Go.Proofs.Ytmphiikdhifhjaa
open Go Go.RowKit Dv Try

/-! ### No places -/
abbrev stillSt (l : List Wd) (e : Nat) : St :=
  ⟨[(0, ⟨[], .sl 2 (dWds l) none⟩), (3, ⟨[], .v (.int .i64 e)⟩)], [], []⟩
theorem plainW_get {l : List Wd} {e : Nat} (h : e < l.length) : ∃ s : ByteArray, (plainW l)[e]? = some ⟨s, 0⟩ := by
  obtain ⟨w, hw⟩ : ∃ w, l[e]? = some w := ⟨_, List.getElem?_eq_getElem h⟩
  exact ⟨w.s, by simp [plainW, hw]⟩
theorem plainW_len (l : List Wd) : (plainW l).length = l.length := by simp [plainW]

theorem still_spec (l : List Wd) (hs : wdsWt l ≤ 1099511627776) : EvP Try.prog 25 [.sl 2 (dWds (plainW l)) none] (.v (.bool true)) := by
  have hl := wdsWt_len l
  have hp := plainW_len l
  refine ev_go (P := Try.prog) tt tt_ok 5000 16 [.tmp 2] Try.func25 rfl Try.ntmps25 rfl (Nat.le_of_ble_eq_true rfl) (fun E9 w9 hn9 hm9 => ?_)
  refine loop_i (fun j st => ∃ e : Nat, st = stillSt (plainW l) e ∧ e ≤ l.length ∧ j = l.length - e) l.length (stillSt (plainW l) 0) (weak_mk ⟨_, rfl⟩ (by repeat' (first | exact rfl | exact we_rfl rfl | refine ⟨_, _, rfl, ?_, ?_⟩)) rfl rfl rfl (by repeat' (first | exact trivial | exact we_rfl rfl | refine ⟨⟨_, rfl, ?_⟩, ?_⟩))) ⟨0, rfl, by omega, by omega⟩ ?_
  rintro j st ⟨e, rfl, he, rfl⟩
  refine br (fun hL => ?_) (fun hL => ?_)
  · have hlt : e < l.length := by have := hL; simp [dWds_len, hp] at this; exact this
    obtain ⟨s, hw⟩ := plainW_get hlt
    refine ⟨dWd ⟨s, 0⟩, ⟨by omega, dWds_get hw⟩, ?_⟩
    exact ⟨stillSt (plainW l) (e + 1), (weak_mk ⟨_, rfl⟩ (by repeat' (first | exact rfl | exact we_rfl rfl | refine ⟨_, _, rfl, ?_, ?_⟩)) rfl rfl rfl (by repeat' (first | exact trivial | exact we_rfl rfl | exact we_int (nxt hlt (by omega)) | refine ⟨⟨_, rfl, ?_⟩, ?_⟩))), l.length - (e + 1), by omega, e + 1, rfl, by omega, rfl⟩
  · exact (rfl : _ = _)

abbrev placeSt (h : Hd) (ps : Pts) (e : Nat) : St :=
  ⟨[(1, ⟨[], .loc 0 0⟩), (3, ⟨[], .v (.int .i64 e)⟩)], [dTy (.mk (stripHd h) (stripP ps))], []⟩

theorem place15_any : ∀ k (t : Ty), t.wt ≤ k → t.wt ≤ 1099511627776 → EvP Try.prog 14 [.agg (dTy (stripT t))] (.v (.bool true))
  | 0, t, hk, _ => by have := t.wt_pos; omega
  | k + 1, .mk h ps, hk, hbig => by
    simp only [Ty.wt, Hd.wt] at hk hbig
    have hpl := ps.wt_len
    have hsl := stripP_len ps
    rw [show stripT (.mk h ps) = .mk (stripHd h) (stripP ps) by simp only [stripT]]
    refine ev_go (P := Try.prog) tt tt_ok 5000 61 [.tmp 2] Try.func14 rfl Try.ntmps14 rfl (Nat.le_of_ble_eq_true rfl) (fun E9 w9 hn9 hm9 => ?_)
    refine call_p (enters_of Try.func25 (by decide +kernel) rfl) (still_spec h.names (by omega)) (by repeat' (first | exact rfl | exact trivial | exact Or.inr (Or.inl ⟨_, rfl⟩) | exact Or.inr ⟨_, rfl⟩ | exact Or.inl ⟨rfl, rfl⟩ | exact Or.inl rfl | refine Or.inr ⟨_, _, rfl, Nat.zero_le _, rfl, ?_⟩ | refine ⟨_, _, rfl, ?_, ?_⟩ | refine ⟨_, rfl, ?_⟩ | refine Or.inr (Or.inr (Or.inr ⟨_, _, rfl, ?_⟩)) | exact Or.inl rfl | refine Or.inr ?_)) rfl ?_
    refine loop_i (fun j st => ∃ e : Nat, st = placeSt h ps e ∧ e ≤ ps.len ∧ j = ps.len - e) ps.len (placeSt h ps 0) (weak_mk ⟨_, rfl⟩ (by repeat' (first | exact rfl | exact we_rfl rfl | refine ⟨_, _, rfl, ?_, ?_⟩)) rfl rfl rfl (by repeat' (first | exact trivial | exact we_rfl rfl | refine ⟨⟨_, rfl, ?_⟩, ?_⟩))) ⟨0, rfl, by omega, by omega⟩ ?_
    rintro j st ⟨e, rfl, he, rfl⟩
    refine br (fun hL => ?_) (fun hL => ?_)
    · have hlt : e < ps.len := by have := hL; simp [dPts_len, hsl] at this; exact this
      obtain ⟨p, t, hx⟩ := Pts.get_lt hlt
      have hwt := Pts.wt_mem (List.mem_of_getElem? hx)
      have hih := place15_any k t (by omega) (by omega)
      have hpw : p.wt + 0 ≤ ps.wt := by omega
      simp only [Ph.wt] at hpw
      have hsx := stripP_get hx
      obtain ⟨u, us⟩ := t
      rw [show stripT (.mk u us) = .mk (stripHd u) (stripP us) by simp only [stripT]] at hih hsx
      refine ⟨_, ⟨by omega, dPts_get hsx⟩, ?_⟩
      refine call_p (enters_of Try.func25 (by decide +kernel) rfl) (still_spec p.label (by omega)) (by repeat' (first | exact rfl | exact trivial | exact Or.inr (Or.inl ⟨_, rfl⟩) | exact Or.inr ⟨_, rfl⟩ | exact Or.inl ⟨rfl, rfl⟩ | exact Or.inl rfl | refine Or.inr ⟨_, _, rfl, Nat.zero_le _, rfl, ?_⟩ | refine ⟨_, _, rfl, ?_, ?_⟩ | refine ⟨_, rfl, ?_⟩ | refine Or.inr (Or.inr (Or.inr ⟨_, _, rfl, ?_⟩)) | exact Or.inl rfl | refine Or.inr ?_)) rfl ?_
      refine call_p (enters_of Try.func25 (by decide +kernel) rfl) (still_spec p.cl (by omega)) (by repeat' (first | exact rfl | exact trivial | exact Or.inr (Or.inl ⟨_, rfl⟩) | exact Or.inr ⟨_, rfl⟩ | exact Or.inl ⟨rfl, rfl⟩ | exact Or.inl rfl | refine Or.inr ⟨_, _, rfl, Nat.zero_le _, rfl, ?_⟩ | refine ⟨_, _, rfl, ?_, ?_⟩ | refine ⟨_, rfl, ?_⟩ | refine Or.inr (Or.inr (Or.inr ⟨_, _, rfl, ?_⟩)) | exact Or.inl rfl | refine Or.inr ?_)) rfl ?_
      refine call_p (enters_of Try.func14 (by decide +kernel) rfl) (hih) (by repeat' (first | exact rfl | exact trivial | exact Or.inr (Or.inl ⟨_, rfl⟩) | exact Or.inr ⟨_, rfl⟩ | exact Or.inl ⟨rfl, rfl⟩ | exact Or.inl rfl | refine Or.inr ⟨_, _, rfl, Nat.zero_le _, rfl, ?_⟩ | refine ⟨_, _, rfl, ?_, ?_⟩ | refine ⟨_, rfl, ?_⟩ | refine Or.inr (Or.inr (Or.inr ⟨_, _, rfl, ?_⟩)) | exact Or.inl rfl | refine Or.inr ?_)) rfl ?_
      exact ⟨placeSt h ps (e + 1), (weak_mk ⟨_, rfl⟩ (by repeat' (first | exact rfl | exact we_rfl rfl | refine ⟨_, _, rfl, ?_, ?_⟩)) rfl rfl rfl (by repeat' (first | exact trivial | exact we_rfl rfl | exact we_int (nxt hlt (by omega)) | refine ⟨⟨_, rfl, ?_⟩, ?_⟩))), ps.len - (e + 1), by omega, e + 1, rfl, by omega, rfl⟩
    · exact (rfl : _ = _)
theorem place15_spec (t : Ty) (hbig : t.wt ≤ 1099511627776) : EvP Try.prog 14 [.agg (dTy (stripT t))] (.v (.bool true)) := place15_any t.wt t (Nat.le_refl _) hbig

abbrev place17St1 (s : Sch) (e : Nat) : St :=
  ⟨[(1, ⟨[], .loc 0 0⟩), (3, ⟨[], .v (.bool true)⟩), (4, ⟨[], .v (.int .i64 e)⟩)], [dSch s], []⟩
abbrev place17St2 (s : Sch) (e : Nat) : St :=
  ⟨[(1, ⟨[], .loc 0 0⟩), (3, ⟨[], .v (.bool true)⟩), (5, ⟨[], .v (.int .i64 e)⟩)], [dSch s], []⟩
abbrev place17St3 (s : Sch) (e : Nat) : St :=
  ⟨[(1, ⟨[], .loc 0 0⟩), (3, ⟨[], .v (.bool true)⟩), (6, ⟨[], .v (.int .i64 e)⟩)], [dSch s], []⟩

theorem place17_spec (s : Sch) (hbig : s.wt ≤ 1099511627776) : EvP Try.prog 8 [.agg (dSch (stripS s))] (.v (.bool true)) := by
  have h1 := wdsWt_len s.levels
  have h2 := prsWt_len s.order
  have h3 := nmsWt_len s.types
  simp only [Sch.wt] at hbig
  have hroot := place15_spec s.root (by omega)
  obtain ⟨levels, order, types, ⟨h, ps⟩⟩ := s
  simp only at h1 h2 h3 hbig hroot
  have hS : stripS ⟨levels, order, types, .mk h ps⟩ = ⟨plainW levels, order.map stripPr, types.map stripNm, .mk (stripHd h) (stripP ps)⟩ := by simp only [stripS, stripT]
  rw [show stripT (.mk h ps) = .mk (stripHd h) (stripP ps) by simp only [stripT]] at hroot
  rw [hS]
  generalize hT : (⟨plainW levels, order.map stripPr, types.map stripNm, .mk (stripHd h) (stripP ps)⟩ : Sch) = T at *
  have e1 : T.levels = plainW levels := by rw [← hT]
  have e2 : T.order = order.map stripPr := by rw [← hT]
  have e3 : T.types = types.map stripNm := by rw [← hT]
  have e4 : T.root = .mk (stripHd h) (stripP ps) := by rw [← hT]
  obtain ⟨tl, tod, tt', ⟨th, tps⟩⟩ := T
  simp only [Ty.mk.injEq] at e1 e2 e3 e4
  obtain ⟨e4, e5⟩ := e4
  rw [← e4, ← e5] at hroot
  refine ev_go (P := Try.prog) tt tt_ok 5000 83 [.tmp 2] Try.func8 rfl Try.ntmps8 rfl (Nat.le_of_ble_eq_true rfl) (fun E9 w9 hn9 hm9 => ?_)
  refine call_p (enters_of Try.func14 (by decide +kernel) rfl) (hroot) (by repeat' (first | exact rfl | exact trivial | exact Or.inr (Or.inl ⟨_, rfl⟩) | exact Or.inr ⟨_, rfl⟩ | exact Or.inl ⟨rfl, rfl⟩ | exact Or.inl rfl | refine Or.inr ⟨_, _, rfl, Nat.zero_le _, rfl, ?_⟩ | refine ⟨_, _, rfl, ?_, ?_⟩ | refine ⟨_, rfl, ?_⟩ | refine Or.inr (Or.inr (Or.inr ⟨_, _, rfl, ?_⟩)) | exact Or.inl rfl | refine Or.inr ?_)) rfl ?_
  refine loop_i (fun j st => ∃ e : Nat, st = place17St1 ⟨tl, tod, tt', .mk th tps⟩ e ∧ e ≤ levels.length ∧ j = levels.length - e) levels.length (place17St1 ⟨tl, tod, tt', .mk th tps⟩ 0) (weak_mk ⟨_, rfl⟩ (by repeat' (first | exact rfl | exact we_rfl rfl | refine ⟨_, _, rfl, ?_, ?_⟩)) rfl rfl rfl (by repeat' (first | exact trivial | exact we_rfl rfl | refine ⟨⟨_, rfl, ?_⟩, ?_⟩))) ⟨0, rfl, by omega, by omega⟩ ?_
  rintro j st ⟨e, rfl, he, rfl⟩
  refine br (fun hL => ?_) (fun hL => ?_)
  · have hlt : e < levels.length := by have := hL; simp [dWds_len, e1, plainW_len] at this; exact this
    obtain ⟨s, hw⟩ := plainW_get hlt
    rw [← e1] at hw
    refine ⟨dWd ⟨s, 0⟩, ⟨by omega, dWds_get hw⟩, ?_⟩
    exact ⟨place17St1 ⟨tl, tod, tt', .mk th tps⟩ (e + 1), (weak_mk ⟨_, rfl⟩ (by repeat' (first | exact rfl | exact we_rfl rfl | refine ⟨_, _, rfl, ?_, ?_⟩)) rfl rfl rfl (by repeat' (first | exact trivial | exact we_rfl rfl | exact we_int (nxt hlt (by omega)) | refine ⟨⟨_, rfl, ?_⟩, ?_⟩))), levels.length - (e + 1), by omega, e + 1, rfl, by omega, rfl⟩
  refine loop_i (fun j st => ∃ e : Nat, st = place17St2 ⟨tl, tod, tt', .mk th tps⟩ e ∧ e ≤ order.length ∧ j = order.length - e) order.length (place17St2 ⟨tl, tod, tt', .mk th tps⟩ 0) (weak_mk ⟨_, rfl⟩ (by repeat' (first | exact rfl | exact we_rfl rfl | refine ⟨_, _, rfl, ?_, ?_⟩)) rfl rfl rfl (by repeat' (first | exact trivial | exact we_rfl rfl | refine ⟨⟨_, rfl, ?_⟩, ?_⟩))) ⟨0, rfl, by omega, by omega⟩ ?_
  rintro j st ⟨e, rfl, he, rfl⟩
  refine br (fun hL => ?_) (fun hL => ?_)
  · have hlt : e < order.length := by have := hL; simp [dPrs_len, e2] at this; exact this
    obtain ⟨w, hw⟩ : ∃ w, order[e]? = some w := ⟨_, List.getElem?_eq_getElem hlt⟩
    have hw2 : tod[e]? = some (stripPr w) := by rw [e2]; simp [hw]
    refine ⟨_, ⟨by omega, dPrs_get hw2⟩, ?_⟩
    refine ⟨_, ⟨by omega, dPrs_get hw2⟩, ?_⟩
    exact ⟨place17St2 ⟨tl, tod, tt', .mk th tps⟩ (e + 1), (weak_mk ⟨_, rfl⟩ (by repeat' (first | exact rfl | exact we_rfl rfl | refine ⟨_, _, rfl, ?_, ?_⟩)) rfl rfl rfl (by repeat' (first | exact trivial | exact we_rfl rfl | exact we_int (nxt hlt (by omega)) | refine ⟨⟨_, rfl, ?_⟩, ?_⟩))), order.length - (e + 1), by omega, e + 1, rfl, by omega, rfl⟩
  refine loop_i (fun j st => ∃ e : Nat, st = place17St3 ⟨tl, tod, tt', .mk th tps⟩ e ∧ e ≤ types.length ∧ j = types.length - e) types.length (place17St3 ⟨tl, tod, tt', .mk th tps⟩ 0) (weak_mk ⟨_, rfl⟩ (by repeat' (first | exact rfl | exact we_rfl rfl | refine ⟨_, _, rfl, ?_, ?_⟩)) rfl rfl rfl (by repeat' (first | exact trivial | exact we_rfl rfl | refine ⟨⟨_, rfl, ?_⟩, ?_⟩))) ⟨0, rfl, by omega, by omega⟩ ?_
  rintro j st ⟨e, rfl, he, rfl⟩
  refine br (fun hL => ?_) (fun hL => ?_)
  · have hlt : e < types.length := by have := hL; simp [dNms_len, e3] at this; exact this
    obtain ⟨w, hw⟩ : ∃ w, types[e]? = some w := ⟨_, List.getElem?_eq_getElem hlt⟩
    have hwt := nmsWt_mem (List.mem_of_getElem? hw)
    have hpl := place15_spec w.2 (by omega)
    obtain ⟨w, u, us⟩ := w
    have hw2 : tt'[e]? = some (stripWd w, .mk (stripHd u) (stripP us)) := by rw [e3]; simp [hw, stripNm, stripT]
    rw [show stripT (.mk u us) = .mk (stripHd u) (stripP us) by simp only [stripT]] at hpl
    refine ⟨_, ⟨by omega, dNms_get hw2⟩, ?_⟩
    refine ⟨_, ⟨by omega, dNms_get hw2⟩, ?_⟩
    refine call_p (enters_of Try.func14 (by decide +kernel) rfl) (hpl) (by repeat' (first | exact rfl | exact trivial | exact Or.inr (Or.inl ⟨_, rfl⟩) | exact Or.inr ⟨_, rfl⟩ | exact Or.inl ⟨rfl, rfl⟩ | exact Or.inl rfl | refine Or.inr ⟨_, _, rfl, Nat.zero_le _, rfl, ?_⟩ | refine ⟨_, _, rfl, ?_, ?_⟩ | refine ⟨_, rfl, ?_⟩ | refine Or.inr (Or.inr (Or.inr ⟨_, _, rfl, ?_⟩)) | exact Or.inl rfl | refine Or.inr ?_)) rfl ?_
    exact ⟨place17St3 ⟨tl, tod, tt', .mk th tps⟩ (e + 1), (weak_mk ⟨_, rfl⟩ (by repeat' (first | exact rfl | exact we_rfl rfl | refine ⟨_, _, rfl, ?_, ?_⟩)) rfl rfl rfl (by repeat' (first | exact trivial | exact we_rfl rfl | exact we_int (nxt hlt (by omega)) | refine ⟨⟨_, rfl, ?_⟩, ?_⟩))), types.length - (e + 1), by omega, e + 1, rfl, by omega, rfl⟩
  exact (rfl : _ = _)
end Go.Proofs.Ytmphiikdhifhjaa
set_option maxRecDepth 100000
namespace Go.Proofs.Ytmphiikdhifhjaa
open Go Go.RowKit Dv Try

/-! ### Great: some bool -/
abbrev greatSt (s : Sch) (n d k q : Int) (e : Nat) : St :=
  ⟨[(1, ⟨[], .loc 0 0⟩), (3, ⟨[], .v (.int .i64 n)⟩), (4, ⟨[], .v (.int .i64 d)⟩), (5, ⟨[], .v (.int .i64 e)⟩)], [dSch s], []⟩

theorem great17_spec (s : Sch) (hbig : s.wt ≤ 1099511627776) : Ev Try.prog 4 [.agg (dSch s)] [] [] (fun d _ _ => ∃ b : Bool, d = .v (.bool b)) := by
  have h1 := wdsWt_len s.levels
  have h2 := prsWt_len s.order
  have h3 := nmsWt_len s.types
  simp only [Sch.wt] at hbig
  have hroot := size15_spec s.root.wt s.root (Nat.le_refl _) (by omega)
  obtain ⟨levels, order, types, ⟨h, ps⟩⟩ := s
  simp only at h1 h2 h3 hbig hroot
  refine ev_go (P := Try.prog) tt tt_ok 5000 60 [.tmp 2] Try.func4 rfl Try.ntmps4 rfl (Nat.le_of_ble_eq_true rfl) (fun E9 w9 hn9 hm9 => ?_)
  refine br (fun _ => ?_) (fun _ => ?_)
  · exact ⟨true, rfl⟩
  refine call_p (enters_of Try.func10 (by decide +kernel) rfl) (hroot) (by repeat' (first | exact rfl | exact trivial | exact Or.inr (Or.inl ⟨_, rfl⟩) | exact Or.inr ⟨_, rfl⟩ | exact Or.inl ⟨rfl, rfl⟩ | exact Or.inl rfl | refine Or.inr ⟨_, _, rfl, Nat.zero_le _, rfl, ?_⟩ | refine ⟨_, _, rfl, ?_, ?_⟩ | refine ⟨_, rfl, ?_⟩ | refine Or.inr (Or.inr (Or.inr ⟨_, _, rfl, ?_⟩)) | exact Or.inl rfl | refine Or.inr ?_)) rfl ?_
  refine loop_i (fun j st => ∃ (e : Nat) (n d : Int), st = greatSt ⟨levels, order, types, .mk h ps⟩ n d 0 0 e ∧ e ≤ types.length ∧ j = types.length - e) types.length (greatSt ⟨levels, order, types, .mk h ps⟩ (Ty.mk h ps).cnt (Ty.mk h ps).deep 0 0 0) (weak_mk ⟨_, rfl⟩ (by repeat' (first | exact rfl | exact we_rfl rfl | refine ⟨_, _, rfl, ?_, ?_⟩)) rfl rfl rfl (by repeat' (first | exact trivial | exact we_rfl rfl | refine ⟨⟨_, rfl, ?_⟩, ?_⟩))) ⟨0, _, _, rfl, by omega, by omega⟩ ?_
  rintro j st ⟨e, n, d, rfl, he, rfl⟩
  refine br (fun hL => ?_) (fun hL => ?_)
  · have hlt : e < types.length := by have := hL; simp [dNms_len] at this; exact this
    obtain ⟨w, hw⟩ : ∃ w, types[e]? = some w := ⟨_, List.getElem?_eq_getElem hlt⟩
    have hwt := nmsWt_mem (List.mem_of_getElem? hw)
    have hs := size15_spec w.2.wt w.2 (Nat.le_refl _) (by omega)
    obtain ⟨w, u, us⟩ := w
    simp only at hs
    refine ⟨_, ⟨by omega, dNms_get hw⟩, ?_⟩
    refine call_p (enters_of Try.func10 (by decide +kernel) rfl) (hs) (by repeat' (first | exact rfl | exact trivial | exact Or.inr (Or.inl ⟨_, rfl⟩) | exact Or.inr ⟨_, rfl⟩ | exact Or.inl ⟨rfl, rfl⟩ | exact Or.inl rfl | refine Or.inr ⟨_, _, rfl, Nat.zero_le _, rfl, ?_⟩ | refine ⟨_, _, rfl, ?_, ?_⟩ | refine ⟨_, rfl, ?_⟩ | refine Or.inr (Or.inr (Or.inr ⟨_, _, rfl, ?_⟩)) | exact Or.inl rfl | refine Or.inr ?_)) rfl ?_
    refine br (fun _ => ?_) (fun _ => ?_)
    · exact ⟨greatSt ⟨levels, order, types, .mk h ps⟩ _ _ 0 0 (e + 1), (weak_mk ⟨_, rfl⟩ (by repeat' (first | exact rfl | exact we_rfl rfl | refine ⟨_, _, rfl, ?_, ?_⟩)) rfl rfl rfl (by repeat' (first | exact trivial | exact we_rfl rfl | exact we_int (nxt hlt (by omega)) | refine ⟨⟨_, rfl, ?_⟩, ?_⟩))), types.length - (e + 1), by omega, e + 1, _, _, rfl, by omega, rfl⟩
    · exact ⟨greatSt ⟨levels, order, types, .mk h ps⟩ _ _ 0 0 (e + 1), (weak_mk ⟨_, rfl⟩ (by repeat' (first | exact rfl | exact we_rfl rfl | refine ⟨_, _, rfl, ?_, ?_⟩)) rfl rfl rfl (by repeat' (first | exact trivial | exact we_rfl rfl | exact we_int (nxt hlt (by omega)) | refine ⟨⟨_, rfl, ?_⟩, ?_⟩))), types.length - (e + 1), by omega, e + 1, _, _, rfl, by omega, rfl⟩
  exact ⟨_, rfl⟩

/-! ### The same, but for places -/
def samePrs : List (Wd × Wd) → List (Wd × Wd) → Bool
  | [], [] => true
  | x :: r, y :: s => (decide (x.1.s = y.1.s) && decide (x.2.s = y.2.s)) && samePrs r s
  | _, _ => false
def sameNms : List (Wd × Ty) → List (Wd × Ty) → Bool
  | [], [] => true
  | x :: r, y :: s => (decide (x.1.s = y.1.s) && sameTy x.2 y.2) && sameNms r s
  | _, _ => false
def sameS (a b : Sch) : Bool := sameWds a.levels b.levels && samePrs a.order b.order && sameTy a.root b.root && sameNms a.types b.types

theorem samePrs_len : ∀ {a b : List (Wd × Wd)}, a.length ≠ b.length → samePrs a b = false
  | [], [], h => (h rfl).elim
  | [], _ :: _, _ => rfl
  | _ :: _, [], _ => rfl
  | x :: r, y :: s, h => by
    simp only [samePrs]
    rw [samePrs_len (a := r) (b := s) (by simpa using h), Bool.and_false]
theorem sameNms_len : ∀ {a b : List (Wd × Ty)}, a.length ≠ b.length → sameNms a b = false
  | [], [], h => (h rfl).elim
  | [], _ :: _, _ => rfl
  | _ :: _, [], _ => rfl
  | x :: r, y :: s, h => by
    simp only [sameNms]
    rw [sameNms_len (a := r) (b := s) (by simpa using h), Bool.and_false]

abbrev same17St1 (a b : Sch) (e : Nat) : St :=
  ⟨[(2, ⟨[], .loc 0 0⟩), (3, ⟨[], .loc 1 0⟩), (5, ⟨[], .v (.int .i64 e)⟩)], [dSch a, dSch b], []⟩
abbrev same17St2 (a b : Sch) (e : Nat) : St :=
  ⟨[(2, ⟨[], .loc 0 0⟩), (3, ⟨[], .loc 1 0⟩), (6, ⟨[], .v (.int .i64 e)⟩)], [dSch a, dSch b], []⟩
abbrev same17St3 (a b : Sch) (e : Nat) : St :=
  ⟨[(2, ⟨[], .loc 0 0⟩), (3, ⟨[], .loc 1 0⟩), (7, ⟨[], .v (.int .i64 e)⟩)], [dSch a, dSch b], []⟩

theorem same17_spec (a b : Sch) (ha : a.wt ≤ 1099511627776) (hb : b.wt ≤ 1099511627776) : EvP Try.prog 7 [.agg (dSch a), .agg (dSch b)] (.v (.bool (sameS a b))) := by
  have h1 := wdsWt_len a.levels
  have h2 := prsWt_len a.order
  have h3 := nmsWt_len a.types
  simp only [Sch.wt] at ha hb
  have hroot := same15_spec a.root.wt a.root b.root (Nat.le_refl _) (by omega)
  have hF : sameS a b = (sameWds a.levels b.levels && samePrs a.order b.order && sameTy a.root b.root && sameNms a.types b.types) := rfl
  generalize sameS a b = F at hF ⊢
  obtain ⟨al, ao, at', ⟨ah, aps⟩⟩ := a
  obtain ⟨bl, bo, bt, ⟨bh, bps⟩⟩ := b
  simp only at h1 h2 h3 ha hb hroot hF
  refine ev_go (P := Try.prog) tt tt_ok 5000 138 [.tmp 4] Try.func7 rfl Try.ntmps7 rfl (Nat.le_of_ble_eq_true rfl) (fun E9 w9 hn9 hm9 => ?_)
  refine br (fun g => ?_) (fun g => ?_)
  · have g : (al.length = bl.length ∧ ao.length = bo.length) ∧ at'.length = bt.length := by
      have := g
      simp [pickB_or, dWds_len, dPrs_len, dNms_len] at this
      omega
    obtain ⟨⟨g1, g2⟩, g3⟩ := g
    refine call_p (enters_of Try.func13 (by decide +kernel) rfl) (hroot) (by repeat' (first | exact rfl | exact trivial | exact Or.inr (Or.inl ⟨_, rfl⟩) | exact Or.inr ⟨_, rfl⟩ | exact Or.inl ⟨rfl, rfl⟩ | exact Or.inl rfl | refine Or.inr ⟨_, _, rfl, Nat.zero_le _, rfl, ?_⟩ | refine ⟨_, _, rfl, ?_, ?_⟩ | refine ⟨_, rfl, ?_⟩ | refine Or.inr (Or.inr (Or.inr ⟨_, _, rfl, ?_⟩)) | exact Or.inl rfl | refine Or.inr ?_)) rfl ?_
    refine br (fun q => ?_) (fun q => ?_)
    · have q : sameTy (.mk ah aps) (.mk bh bps) = false := by simpa [pickB] using q
      refine (congrArg (fun b => DV.v (.bool b)) ?_ : _ = _)
      rw [hF, q]
      simp
    have q : sameTy (.mk ah aps) (.mk bh bps) = true := by simpa [pickB] using q
    rw [q, Bool.and_true] at hF
    refine loop_i (fun j st => ∃ e : Nat, st = same17St1 ⟨al, ao, at', .mk ah aps⟩ ⟨bl, bo, bt, .mk bh bps⟩ e ∧ e ≤ al.length ∧ F = (sameWds (al.drop e) (bl.drop e) && samePrs ao bo && sameNms at' bt) ∧ j = al.length - e) al.length
      (same17St1 ⟨al, ao, at', .mk ah aps⟩ ⟨bl, bo, bt, .mk bh bps⟩ 0) (weak_mk ⟨_, rfl⟩ (by repeat' (first | exact rfl | exact we_rfl rfl | refine ⟨_, _, rfl, ?_, ?_⟩)) rfl rfl rfl (by repeat' (first | exact trivial | exact we_rfl rfl | refine ⟨⟨_, rfl, ?_⟩, ?_⟩))) ⟨0, rfl, by omega, hF, by omega⟩ ?_
    rintro j st ⟨e, rfl, he, heq, rfl⟩
    refine br (fun hL => ?_) (fun hL => ?_)
    · have hlt : e < al.length := by have := hL; simp [dWds_len] at this; exact this
      obtain ⟨x, hx⟩ : ∃ x, al[e]? = some x := ⟨_, List.getElem?_eq_getElem hlt⟩
      obtain ⟨y, hy⟩ : ∃ y, bl[e]? = some y := ⟨_, List.getElem?_eq_getElem (g1 ▸ hlt)⟩
      rw [drop_cons hx, drop_cons hy] at heq
      refine drawG_i (fun _ => false) mo (by decide +kernel) ?_
      refine ⟨dWd x, ⟨by omega, dWds_get hx⟩, dWd y, ⟨by omega, dWds_get hy⟩, ?_⟩
      refine br (fun h => ?_) (fun h => ?_)
      · have hne : x.s ≠ y.s := by simpa using h
        refine (congrArg (fun b => DV.v (.bool b)) ?_ : _ = _)
        rw [heq]
        simp [sameWds, hne]
      · have hne : x.s = y.s := by simpa using h
        refine ⟨same17St1 ⟨al, ao, at', .mk ah aps⟩ ⟨bl, bo, bt, .mk bh bps⟩ (e + 1), (weak_mk ⟨_, rfl⟩ (by repeat' (first | exact rfl | exact we_rfl rfl | refine ⟨_, _, rfl, ?_, ?_⟩)) rfl rfl rfl (by repeat' (first | exact trivial | exact we_rfl rfl | exact we_int (nxt hlt (by omega)) | refine ⟨⟨_, rfl, ?_⟩, ?_⟩))), al.length - (e + 1), by omega, e + 1, rfl, by omega, ?_, rfl⟩
        rw [heq]
        simp [sameWds, hne]
    have hge : e = al.length := by have := hL; simp [dWds_len] at this; omega
    have hF2 : F = (samePrs ao bo && sameNms at' bt) := by
      rw [heq, hge, List.drop_length, g1, List.drop_length]
      simp [sameWds]
    clear heq
    refine loop_i (fun j st => ∃ e : Nat, st = same17St2 ⟨al, ao, at', .mk ah aps⟩ ⟨bl, bo, bt, .mk bh bps⟩ e ∧ e ≤ ao.length ∧ F = (samePrs (ao.drop e) (bo.drop e) && sameNms at' bt) ∧ j = ao.length - e) ao.length
      (same17St2 ⟨al, ao, at', .mk ah aps⟩ ⟨bl, bo, bt, .mk bh bps⟩ 0) (weak_mk ⟨_, rfl⟩ (by repeat' (first | exact rfl | exact we_rfl rfl | refine ⟨_, _, rfl, ?_, ?_⟩)) rfl rfl rfl (by repeat' (first | exact trivial | exact we_rfl rfl | refine ⟨⟨_, rfl, ?_⟩, ?_⟩))) ⟨0, rfl, by omega, hF2, by omega⟩ ?_
    rintro j st ⟨e, rfl, he, heq, rfl⟩
    refine br (fun hL => ?_) (fun hL => ?_)
    · have hlt : e < ao.length := by have := hL; simp [dPrs_len] at this; exact this
      obtain ⟨x, hx⟩ : ∃ x, ao[e]? = some x := ⟨_, List.getElem?_eq_getElem hlt⟩
      obtain ⟨y, hy⟩ : ∃ y, bo[e]? = some y := ⟨_, List.getElem?_eq_getElem (g2 ▸ hlt)⟩
      rw [drop_cons hx, drop_cons hy] at heq
      refine drawG_i (fun _ => false) mo (by decide +kernel) ?_
      refine ⟨_, ⟨by omega, dPrs_get hx⟩, _, ⟨by omega, dPrs_get hy⟩, ?_⟩
      refine br (fun h => ?_) (fun h => ?_)
      · refine ⟨_, ⟨by omega, dPrs_get hx⟩, _, ⟨by omega, dPrs_get hy⟩, ?_⟩
        have h1 : x.1.s = y.1.s := by simpa using h
        refine br (fun h => ?_) (fun h => ?_)
        · have hne : x.2.s ≠ y.2.s := by simpa [pickB] using h
          refine (congrArg (fun b => DV.v (.bool b)) ?_ : _ = _)
          rw [heq]
          simp [samePrs, hne]
        · have hne : x.2.s = y.2.s := by simpa [pickB] using h
          refine ⟨same17St2 ⟨al, ao, at', .mk ah aps⟩ ⟨bl, bo, bt, .mk bh bps⟩ (e + 1), (weak_mk ⟨_, rfl⟩ (by repeat' (first | exact rfl | exact we_rfl rfl | refine ⟨_, _, rfl, ?_, ?_⟩)) rfl rfl rfl (by repeat' (first | exact trivial | exact we_rfl rfl | exact we_int (nxt hlt (by omega)) | refine ⟨⟨_, rfl, ?_⟩, ?_⟩))), ao.length - (e + 1), by omega, e + 1, rfl, by omega, ?_, rfl⟩
          rw [heq]
          simp [samePrs, hne, h1]
      · have hne : x.1.s ≠ y.1.s := by simpa using h
        refine (congrArg (fun b => DV.v (.bool b)) ?_ : _ = _)
        rw [heq]
        simp [samePrs, hne]
    have hge : e = ao.length := by have := hL; simp [dPrs_len] at this; omega
    have hF3 : F = sameNms at' bt := by
      rw [heq, hge, List.drop_length, g2, List.drop_length]
      simp [samePrs]
    clear heq
    refine loop_i (fun j st => ∃ e : Nat, st = same17St3 ⟨al, ao, at', .mk ah aps⟩ ⟨bl, bo, bt, .mk bh bps⟩ e ∧ e ≤ at'.length ∧ F = sameNms (at'.drop e) (bt.drop e) ∧ j = at'.length - e) at'.length
      (same17St3 ⟨al, ao, at', .mk ah aps⟩ ⟨bl, bo, bt, .mk bh bps⟩ 0) (weak_mk ⟨_, rfl⟩ (by repeat' (first | exact rfl | exact we_rfl rfl | refine ⟨_, _, rfl, ?_, ?_⟩)) rfl rfl rfl (by repeat' (first | exact trivial | exact we_rfl rfl | refine ⟨⟨_, rfl, ?_⟩, ?_⟩))) ⟨0, rfl, by omega, hF3, by omega⟩ ?_
    rintro j st ⟨e, rfl, he, heq, rfl⟩
    refine br (fun hL => ?_) (fun hL => ?_)
    · have hlt : e < at'.length := by have := hL; simp [dNms_len] at this; exact this
      obtain ⟨x, hx⟩ : ∃ x, at'[e]? = some x := ⟨_, List.getElem?_eq_getElem hlt⟩
      obtain ⟨y, hy⟩ : ∃ y, bt[e]? = some y := ⟨_, List.getElem?_eq_getElem (g3 ▸ hlt)⟩
      rw [drop_cons hx, drop_cons hy] at heq
      have hwt := nmsWt_mem (List.mem_of_getElem? hx)
      have hty := same15_spec x.2.wt x.2 y.2 (Nat.le_refl _) (by omega)
      obtain ⟨x, u, us⟩ := x
      obtain ⟨y, v, vs⟩ := y
      refine drawG_i (fun _ => false) mo (by decide +kernel) ?_
      refine ⟨_, ⟨by omega, dNms_get hx⟩, _, ⟨by omega, dNms_get hy⟩, ?_⟩
      refine br (fun h => ?_) (fun h => ?_)
      · refine ⟨_, ⟨by omega, dNms_get hx⟩, _, ⟨by omega, dNms_get hy⟩, ?_⟩
        refine callD_p (enters_of Try.func13 (by decide +kernel) rfl) (hty) (by repeat' (first | exact rfl | exact trivial | exact Or.inr (Or.inl ⟨_, rfl⟩) | exact Or.inr ⟨_, rfl⟩ | exact Or.inl ⟨rfl, rfl⟩ | exact Or.inl rfl | refine Or.inr ⟨_, _, rfl, Nat.zero_le _, rfl, ?_⟩ | refine ⟨_, _, rfl, ?_, ?_⟩ | refine ⟨_, rfl, ?_⟩ | refine Or.inr (Or.inr (Or.inr ⟨_, _, rfl, ?_⟩)) | exact Or.inl rfl | refine Or.inr ?_)) rfl ?_
        have h1 : x.s = y.s := by simpa using h
        refine br (fun h => ?_) (fun h => ?_)
        · have hne : sameTy (.mk u us) (.mk v vs) = false := by simpa [pickB] using h
          refine (congrArg (fun b => DV.v (.bool b)) ?_ : _ = _)
          rw [heq]
          simp [sameNms, hne]
        · have hne : sameTy (.mk u us) (.mk v vs) = true := by simpa [pickB] using h
          refine ⟨same17St3 ⟨al, ao, at', .mk ah aps⟩ ⟨bl, bo, bt, .mk bh bps⟩ (e + 1), (weak_mk ⟨_, rfl⟩ (by repeat' (first | exact rfl | exact we_rfl rfl | refine ⟨_, _, rfl, ?_, ?_⟩)) rfl rfl rfl (by repeat' (first | exact trivial | exact we_rfl rfl | exact we_int (nxt hlt (by omega)) | refine ⟨⟨_, rfl, ?_⟩, ?_⟩))), at'.length - (e + 1), by omega, e + 1, rfl, by omega, ?_, rfl⟩
          rw [heq]
          simp [sameNms, hne, h1]
      · have hne : x.s ≠ y.s := by simpa using h
        refine (congrArg (fun b => DV.v (.bool b)) ?_ : _ = _)
        rw [heq]
        simp [sameNms, hne]
    have hge : e = at'.length := by have := hL; simp [dNms_len] at this; omega
    refine (congrArg (fun b => DV.v (.bool b)) ?_ : _ = _)
    rw [heq, hge, List.drop_length, g3, List.drop_length]
    simp [sameNms]
  · have g : ¬ ((al.length = bl.length ∧ ao.length = bo.length) ∧ at'.length = bt.length) := by
      rintro ⟨⟨g1, g2⟩, g3⟩
      simp [pickB_or, dWds_len, dPrs_len, dNms_len, g1, g2, g3] at g
    refine (congrArg (fun b => DV.v (.bool b)) ?_ : _ = _)
    rw [hF]
    by_cases g1 : al.length = bl.length
    · by_cases g2 : ao.length = bo.length
      · rw [sameNms_len (a := at') (b := bt) (fun h => g ⟨⟨g1, g2⟩, h⟩)]; simp
      · rw [samePrs_len (a := ao) (b := bo) g2]; simp
    · rw [sameWds_len (a := al) (b := bl) g1]; simp
end Go.Proofs.Ytmphiikdhifhjaa
set_option maxRecDepth 100000
namespace Go.Proofs.Ytmphiikdhifhjaa
open Go Go.RowKit Dv Try

theorem wd_eqIn (d : Nat) (a b : ByteArray) (p q : Int) (w : World) : (Op.equalIn (d + 1 + 1) 27 (.agg #[.string a, .int .i64 p]) (.agg #[.string b, .int .i64 q])).run Try.prog w = .ok (decide (a = b) && decide (p = q)) w := by
  have hf : Try.prog.underlying 27 = some (.struct (Try.prog.fieldsOf 27)) := by simp [Program.fieldsOf, Try.underlying27]
  have hf2 : (Try.prog.fieldsOf 27).toList = [⟨ "Name", 9, 0, false, "", "", 0⟩, ⟨ "At", 3, 1, false, "", "", 16⟩] := by simp [Program.fieldsOf, Try.underlying27]
  have hs : Try.prog.stoodInHeld 27 = false := by kernel_rfl
  rw [run_equalIn_struct w (d + 1) 27 _ _ hf hs, hf2]
  have e1 : (a.toList == b.toList) = decide (a = b) := by
    rw [ByteArray.toList_eq, ByteArray.toList_eq]
    by_cases h : a = b
    · subst h; simp
    · have : ¬ a.data = b.data := fun e => h (ByteArray.ext e)
      simp [h, this]
  have q9 : ∀ cs : Array Value, ∀ off v, cs[off]? = some v → (part 9 cs off).run Try.prog w = .ok v w := fun cs off v h => by
    simp [part, Try.isAgg9, h]
  have q3 : ∀ cs : Array Value, ∀ off v, cs[off]? = some v → (part 3 cs off).run Try.prog w = .ok v w := fun cs off v h => by
    simp [part, Try.isAgg3, h]
  simp only [Op.eqFields, ne_eq, String.reduceEq, not_false_eq_true, if_true, Sem.run_bind, q9 #[.string a, .int .i64 p] 0 (.string a) rfl, q9 #[.string b, .int .i64 q] 0 (.string b) rfl, Result.andThen_ok, run_equalIn_string w d 9 a b Try.underlying9, e1]
  by_cases h : a = b
  · simp only [h, decide_true, Bool.not_true, Bool.false_eq_true, if_false, Sem.run_bind, q3 #[.string b, .int .i64 p] 1 (.int .i64 p) rfl, q3 #[.string b, .int .i64 q] 1 (.int .i64 q) rfl, Result.andThen_ok, run_equalIn_int w d 3 .i64 .i64 p q Try.underlying3]
    by_cases h2 : p = q <;> simp [h2, Sem.run_pure]
  · simp [h, Sem.run_pure]

theorem max_depth : ∃ d, Op.maxDepth = d + 1 + 1 + 1 := ⟨Op.maxDepth - 3, by decide⟩

theorem wd_guard2 (op : BinOp) (w : World) (x y : Operand) (vs vs' : Array Value) : (eqGuard op 27 x y (.agg vs) (.agg vs')).run Try.prog w = .ok () w := by
  have h : Try.prog.eqGuardType Try.prog.depth 27 = false := by kernel_rfl
  cases op <;> simp [eqGuard, run_program, h]
theorem wd_eql (a b : ByteArray) (p q : Int) (w : World) : (binOp .eql 27 (.agg #[.string a, .int .i64 p]) (.agg #[.string b, .int .i64 q])).run Try.prog w = .ok (.bool (decide (a = b) && decide (p = q))) w := by
  obtain ⟨d, hm⟩ := max_depth
  have he : (Op.equal 27 (.agg #[.string a, .int .i64 p]) (.agg #[.string b, .int .i64 q])).run Try.prog w = .ok (decide (a = b) && decide (p = q)) w := by
    unfold Op.equal
    rw [hm]
    exact wd_eqIn (d + 1) a b p q w
  show ((do let r ← Op.equal 27 _ _; pure (Value.bool r)) : Sem Value).run Try.prog w = _
  simp only [Sem.run_bind, he, Result.andThen_ok, Sem.run_pure]
theorem weql_cmp (x y : Operand) (a b : Wd) : AggCmp Try.prog .eql x y 27 (dWd a) (dWd b) (decide (a.s = b.s) && decide (a.a = b.a)) :=
  ⟨[.string a.s, .int .i64 a.a], [.string b.s, .int .i64 b.a], rfl, rfl, fun w => ⟨wd_guard2 _ w x y _ _, wd_eql a.s b.s a.a b.a w⟩⟩

/-- Two pairs are the same. -/
def prB (a b : Wd × Wd) : Bool := (decide (a.1.s = b.1.s) && decide (a.1.a = b.1.a)) && (decide (a.2.s = b.2.s) && decide (a.2.a = b.2.a))

theorem pr_guard (w : World) (x y : Operand) (vs vs' : Array Value) : (eqGuard .neq 46 x y (.agg vs) (.agg vs')).run Try.prog w = .ok () w := by
  have h : Try.prog.eqGuardType Try.prog.depth 46 = false := by kernel_rfl
  simp [eqGuard, run_program, h]
theorem pr_neq (a b : Wd × Wd) (w : World) : (binOp .neq 46 (.agg #[.string a.1.s, .int .i64 a.1.a, .string a.2.s, .int .i64 a.2.a]) (.agg #[.string b.1.s, .int .i64 b.1.a, .string b.2.s, .int .i64 b.2.a])).run Try.prog w = .ok (.bool (!(prB a b))) w := by
  have hf : Try.prog.underlying 46 = some (.struct (Try.prog.fieldsOf 46)) := by simp [Program.fieldsOf, Try.underlying46]
  have hf2 : (Try.prog.fieldsOf 46).toList = [⟨ "Lo", 27, 0, false, "", "", 0⟩, ⟨ "Hi", 27, 2, false, "", "", 24⟩] := by simp [Program.fieldsOf, Try.underlying46]
  have hs : Try.prog.stoodInHeld 46 = false := by kernel_rfl
  obtain ⟨d, hm⟩ := max_depth
  have qp : ∀ cs : Array Value, ∀ off, (part 27 cs off).run Try.prog w = .ok (.agg (cs.extract off (off + 2))) w := fun cs off => by
    simp [part, Try.isAgg27, Try.sizeOf27]
  have he : (Op.equal 46 (.agg #[.string a.1.s, .int .i64 a.1.a, .string a.2.s, .int .i64 a.2.a]) (.agg #[.string b.1.s, .int .i64 b.1.a, .string b.2.s, .int .i64 b.2.a])).run Try.prog w = .ok (prB a b) w := by
    unfold Op.equal
    rw [hm, run_equalIn_struct w (d + 1 + 1) 46 _ _ hf hs, hf2]
    have x1 : (#[Value.string a.1.s, .int .i64 a.1.a, .string a.2.s, .int .i64 a.2.a].extract 0 (0 + 2)) = #[.string a.1.s, .int .i64 a.1.a] := rfl
    have x2 : (#[Value.string a.1.s, .int .i64 a.1.a, .string a.2.s, .int .i64 a.2.a].extract 2 (2 + 2)) = #[.string a.2.s, .int .i64 a.2.a] := rfl
    have y1 : (#[Value.string b.1.s, .int .i64 b.1.a, .string b.2.s, .int .i64 b.2.a].extract 0 (0 + 2)) = #[.string b.1.s, .int .i64 b.1.a] := rfl
    have y2 : (#[Value.string b.1.s, .int .i64 b.1.a, .string b.2.s, .int .i64 b.2.a].extract 2 (2 + 2)) = #[.string b.2.s, .int .i64 b.2.a] := rfl
    simp only [Op.eqFields, ne_eq, String.reduceEq, not_false_eq_true, if_true, Sem.run_bind, qp, Result.andThen_ok, x1, x2, y1, y2, wd_eqIn]
    unfold prB
    cases (decide (a.1.s = b.1.s) && decide (a.1.a = b.1.a))
    · simp [Sem.run_pure]
    · simp only [Bool.not_true, Bool.false_eq_true, if_false, Sem.run_bind, Result.andThen_ok, wd_eqIn, qp, x2, y2]
      cases (decide (a.2.s = b.2.s) && decide (a.2.a = b.2.a)) <;> simp [Sem.run_pure]
  show ((do let r ← Op.equal 46 _ _; pure (Value.bool !r)) : Sem Value).run Try.prog w = _
  simp only [Sem.run_bind, he, Result.andThen_ok, Sem.run_pure]
theorem pr_cmp (x y : Operand) (a b : Wd × Wd) : AggCmp Try.prog .neq x y 46 (dPr a) (dPr b) (!(prB a b)) :=
  ⟨[.string a.1.s, .int .i64 a.1.a, .string a.2.s, .int .i64 a.2.a], [.string b.1.s, .int .i64 b.1.a, .string b.2.s, .int .i64 b.2.a], rfl, rfl, fun w => ⟨pr_guard w x y _ _, pr_neq a b w⟩⟩

def eqPrs : List (Wd × Wd) → List (Wd × Wd) → Bool
  | [], [] => true
  | x :: r, y :: s => prB x y && eqPrs r s
  | _, _ => false
theorem eqPrs_len : ∀ {a b : List (Wd × Wd)}, a.length ≠ b.length → eqPrs a b = false
  | [], [], h => (h rfl).elim
  | [], _ :: _, _ => rfl
  | _ :: _, [], _ => rfl
  | x :: r, y :: s, h => by
    simp only [eqPrs]
    rw [eqPrs_len (a := r) (b := s) (by simpa using h), Bool.and_false]
theorem eqPrs_strip : ∀ a b : List (Wd × Wd), eqPrs (a.map stripPr) (b.map stripPr) = samePrs a b
  | [], [] => rfl
  | [], _ :: _ => rfl
  | _ :: _, [] => rfl
  | x :: r, y :: s => by
    have := eqPrs_strip r s
    simp only [List.map_cons, eqPrs, samePrs, this]
    rw [Bool.eq_iff_iff]
    simp [prB, stripPr, stripWd]
    intro _
    exact ⟨fun h => ⟨of_decide_eq_true h.1, of_decide_eq_true h.2⟩, fun h => ⟨decide_eq_true h.1, decide_eq_true h.2⟩⟩

abbrev eqprSt (a b : List (Wd × Wd)) (e : Nat) : St :=
  ⟨[(0, ⟨[], .sl 4 (dPrs a) none⟩), (1, ⟨[], .sl 4 (dPrs b) none⟩), (12, ⟨[], .v (.int .i64 (dPrs a).length)⟩), (13, ⟨[], .v (.int .i64 e)⟩)], [], []⟩

theorem equalPr_spec (a b : List (Wd × Wd)) (hs : a.length ≤ 1099511627776) :
    EvP Try.prog 16 [.sl 4 (dPrs a) none, .sl 4 (dPrs b) none] (.v (.bool (eqPrs a b))) := by
  refine ev_go (P := Try.prog) tt tt_ok 5000 26 [.tmp 4] Try.func16 rfl Try.ntmps16 rfl (Nat.le_of_ble_eq_true rfl) (fun E9 w9 hn9 hm9 => ?_)
  refine br (fun h => ?_) (fun h => ?_)
  · have hne : a.length ≠ b.length := by have := h; simp [dPrs_len] at this; omega
    exact congrArg (fun b => DV.v (.bool b)) (eqPrs_len hne).symm
  have hl : a.length = b.length := by have := h; simp [dPrs_len] at this; omega
  refine loop_i (fun j st => ∃ e : Nat, st = eqprSt a b e ∧ e ≤ a.length ∧ eqPrs a b = eqPrs (a.drop e) (b.drop e) ∧ j = a.length - e) a.length
    (eqprSt a b 0) (weak_mk ⟨_, rfl⟩ (by repeat' (first | exact rfl | exact we_rfl rfl | refine ⟨_, _, rfl, ?_, ?_⟩)) rfl rfl rfl (by repeat' (first | exact trivial | exact we_rfl rfl | refine ⟨⟨_, rfl, ?_⟩, ?_⟩))) ⟨0, rfl, by omega, rfl, by omega⟩ ?_
  rintro j st ⟨e, rfl, he, heq, rfl⟩
  refine br (fun h => ?_) (fun h => ?_)
  · have hlt : e < a.length := by have := h; simp [dPrs_len] at this; exact this
    obtain ⟨x, hx⟩ : ∃ x, a[e]? = some x := ⟨_, List.getElem?_eq_getElem hlt⟩
    obtain ⟨y, hy⟩ : ∃ y, b[e]? = some y := ⟨_, List.getElem?_eq_getElem (hl ▸ hlt)⟩
    rw [drop_cons hx, drop_cons hy] at heq
    refine drawG_i (fun _ => false) mo (by decide +kernel) ?_
    refine ⟨dPr x, ⟨by omega, dPrs_get hx⟩, dPr y, ⟨by omega, dPrs_get hy⟩, _, pr_cmp _ _ x y, ?_⟩
    refine br (fun h => ?_) (fun h => ?_)
    · have hne : prB x y = false := by
        have h : (!(prB x y)) = true := h
        revert h
        cases prB x y <;> decide
      refine (congrArg (fun b => DV.v (.bool b)) ?_ : _ = _)
      rw [heq]
      simp only [eqPrs, hne, Bool.false_and]
    · have hne : prB x y = true := by
        have h : (!(prB x y)) = false := h
        revert h
        cases prB x y <;> decide
      refine ⟨eqprSt a b (e + 1), (weak_mk ⟨_, rfl⟩ (by repeat' (first | exact rfl | exact we_rfl rfl | refine ⟨_, _, rfl, ?_, ?_⟩)) rfl rfl rfl (by repeat' (first | exact trivial | exact we_rfl rfl | exact we_int (nxt hlt (by omega)) | refine ⟨⟨_, rfl, ?_⟩, ?_⟩))), a.length - (e + 1), by omega, e + 1, rfl, by omega, ?_, rfl⟩
      rw [heq]
      simp only [eqPrs, hne, Bool.true_and]
  · have hge : e = a.length := by have := h; simp [dPrs_len] at this; omega
    refine (congrArg (fun b => DV.v (.bool b)) ?_ : _ = _)
    rw [heq, hge, List.drop_length, hl, List.drop_length]
    simp [eqPrs]

/-! ### Named types -/
def nmB (x y : Wd × Ty) : Bool := (decide (x.1.s = y.1.s) && decide (x.1.a = y.1.a)) && sameTy x.2 y.2

theorem same1_spec (x y : Wd × Ty) (hs : x.2.wt ≤ 1099511627776) (hs' : y.2.wt ≤ 1099511627776) :
    EvP Try.prog 19 [.agg (dNm x), .agg (dNm y)] (.v (.bool (nmB x y))) := by
  have hk := ksame_spec x.2 y.2 hs hs'
  obtain ⟨x, u, us⟩ := x
  obtain ⟨y, v, vs⟩ := y
  refine ev_go (P := Try.prog) tt tt_ok 5000 17 [.tmp 4] Try.func19 rfl Try.ntmps19 rfl (Nat.le_of_ble_eq_true rfl) (fun E9 w9 hn9 hm9 => ?_)
  refine ⟨_, weql_cmp _ _ x y, ?_⟩
  refine br (fun h => ?_) (fun h => ?_)
  · have h1 : (decide (x.s = y.s) && decide (x.a = y.a)) = true := by simpa using h
    refine call_p (enters_of Try.func17 (by decide +kernel) rfl) (hk) (by repeat' (first | exact rfl | exact trivial | exact Or.inr (Or.inl ⟨_, rfl⟩) | exact Or.inr ⟨_, rfl⟩ | exact Or.inl ⟨rfl, rfl⟩ | exact Or.inl rfl | refine Or.inr ⟨_, _, rfl, Nat.zero_le _, rfl, ?_⟩ | refine ⟨_, _, rfl, ?_, ?_⟩ | refine ⟨_, rfl, ?_⟩ | refine Or.inr (Or.inr (Or.inr ⟨_, _, rfl, ?_⟩)) | exact Or.inl rfl | refine Or.inr ?_)) rfl ?_
    refine (congrArg (fun b => DV.v (.bool b)) ?_ : _ = _)
    simp [nmB, pickB, h1]
  · have h1 : (decide (x.s = y.s) && decide (x.a = y.a)) = false := by
      have := h
      revert this
      cases (decide (x.s = y.s) && decide (x.a = y.a)) <;> decide
    refine (congrArg (fun b => DV.v (.bool b)) ?_ : _ = _)
    simp only [nmB, h1]
    simp [pickB]

def eqNms : List (Wd × Ty) → List (Wd × Ty) → Bool
  | [], [] => true
  | x :: r, y :: s => nmB x y && eqNms r s
  | _, _ => false
theorem eqNms_len : ∀ {a b : List (Wd × Ty)}, a.length ≠ b.length → eqNms a b = false
  | [], [], h => (h rfl).elim
  | [], _ :: _, _ => rfl
  | _ :: _, [], _ => rfl
  | x :: r, y :: s, h => by
    simp only [eqNms]
    rw [eqNms_len (a := r) (b := s) (by simpa using h), Bool.and_false]

abbrev eqnSt (a b : List (Wd × Ty)) (g e : Nat) : St :=
  ⟨[(1, ⟨[], .sl 11 (dNms b) none⟩), (2, ⟨[], .fn g [] []⟩), (15, ⟨[], .sl 11 (dNms a) none⟩), (16, ⟨[], .v (.int .i64 (dNms a).length)⟩), (17, ⟨[], .v (.int .i64 e)⟩)], [], []⟩

theorem equalN_spec (a b : List (Wd × Ty)) (hs : nmsWt a ≤ 1099511627776) (hs' : nmsWt b ≤ 1099511627776) :
    EvP Try.prog 18 [.sl 11 (dNms a) none, .sl 11 (dNms b) none, .fn 19 [] []] (.v (.bool (eqNms a b))) := by
  have hal := nmsWt_len a
  refine ev_go (P := Try.prog) tt tt_ok 5000 32 [.tmp 6] Try.func18 rfl Try.ntmps18 rfl (Nat.le_of_ble_eq_true rfl) (fun E9 w9 hn9 hm9 => ?_)
  refine br (fun h => ?_) (fun h => ?_)
  · have hne : a.length ≠ b.length := by have := h; simp [dNms_len] at this; omega
    exact congrArg (fun b => DV.v (.bool b)) (eqNms_len hne).symm
  have hl : a.length = b.length := by have := h; simp [dNms_len] at this; omega
  refine loop_i (fun j st => ∃ e : Nat, st = eqnSt a b 19 e ∧ e ≤ a.length ∧ eqNms a b = eqNms (a.drop e) (b.drop e) ∧ j = a.length - e) a.length
    (eqnSt a b 19 0) (weak_mk ⟨_, rfl⟩ (by repeat' (first | exact rfl | exact we_rfl rfl | refine ⟨_, _, rfl, ?_, ?_⟩)) rfl rfl rfl (by repeat' (first | exact trivial | exact we_rfl rfl | refine ⟨⟨_, rfl, ?_⟩, ?_⟩))) ⟨0, rfl, by omega, rfl, by omega⟩ ?_
  rintro j st ⟨e, rfl, he, heq, rfl⟩
  refine br (fun h => ?_) (fun h => ?_)
  · have hlt : e < a.length := by have := h; simp [dNms_len] at this; exact this
    obtain ⟨x, hx⟩ : ∃ x, a[e]? = some x := ⟨_, List.getElem?_eq_getElem hlt⟩
    obtain ⟨y, hy⟩ : ∃ y, b[e]? = some y := ⟨_, List.getElem?_eq_getElem (hl ▸ hlt)⟩
    rw [drop_cons hx, drop_cons hy] at heq
    have w1 := nmsWt_mem (List.mem_of_getElem? hx)
    have w2 := nmsWt_mem (List.mem_of_getElem? hy)
    have hev := same1_spec x y (by omega) (by omega)
    obtain ⟨x, u, us⟩ := x
    obtain ⟨y, v, vs⟩ := y
    refine ⟨_, ⟨by omega, dNms_get hx⟩, ?_⟩
    refine ⟨_, ⟨by omega, dNms_get hy⟩, ?_⟩
    refine call_p (enters_of Try.func19 (by decide +kernel) rfl) (hev) (by repeat' (first | exact rfl | exact trivial | exact Or.inr (Or.inl ⟨_, rfl⟩) | exact Or.inr ⟨_, rfl⟩ | exact Or.inl ⟨rfl, rfl⟩ | exact Or.inl rfl | refine Or.inr ⟨_, _, rfl, Nat.zero_le _, rfl, ?_⟩ | refine ⟨_, _, rfl, ?_, ?_⟩ | refine ⟨_, rfl, ?_⟩ | refine Or.inr (Or.inr (Or.inr ⟨_, _, rfl, ?_⟩)) | exact Or.inl rfl | refine Or.inr ?_)) rfl ?_
    refine br (fun h => ?_) (fun h => ?_)
    · have hne : nmB (x, .mk u us) (y, .mk v vs) = false := by simpa using h
      refine (congrArg (fun b => DV.v (.bool b)) ?_ : _ = _)
      rw [heq]
      simp only [eqNms, hne, Bool.false_and]
    · have hne : nmB (x, .mk u us) (y, .mk v vs) = true := by simpa using h
      refine ⟨eqnSt a b 19 (e + 1), (weak_mk ⟨_, rfl⟩ (by repeat' (first | exact rfl | exact we_rfl rfl | refine ⟨_, _, rfl, ?_, ?_⟩)) rfl rfl rfl (by repeat' (first | exact trivial | exact we_rfl rfl | exact we_int (nxt hlt (by omega)) | refine ⟨⟨_, rfl, ?_⟩, ?_⟩))), a.length - (e + 1), by omega, e + 1, rfl, by omega, ?_, rfl⟩
      rw [heq]
      simp only [eqNms, hne, Bool.true_and]
  · have hge : e = a.length := by have := h; simp [dNms_len] at this; omega
    refine (congrArg (fun b => DV.v (.bool b)) ?_ : _ = _)
    rw [heq, hge, List.drop_length, hl, List.drop_length]
    simp [eqNms]

/-! ### Sameness does not see places -/
theorem sameWds_pl : ∀ a b : List Wd, sameWds (plainW a) b = sameWds a b
  | [], [] => rfl
  | [], _ :: _ => rfl
  | _ :: _, [] => rfl
  | x :: r, y :: s => by
    have := sameWds_pl r s
    simp only [plainW, List.map_cons, sameWds] at this ⊢
    rw [this]
theorem sameWds_pr : ∀ a b : List Wd, sameWds a (plainW b) = sameWds a b
  | [], [] => rfl
  | [], _ :: _ => rfl
  | _ :: _, [] => rfl
  | x :: r, y :: s => by
    have := sameWds_pr r s
    simp only [plainW, List.map_cons, sameWds] at this ⊢
    rw [this]
mutual
theorem sameTy_l : ∀ a b : Ty, sameTy (stripT a) b = sameTy a b
  | .mk h ps, .mk k qs => by simp only [stripT, sameTy, sameHd, stripHd, stripWd, sameWds_pl, samePts_l ps qs]
theorem samePts_l : ∀ a b : Pts, samePts (stripP a) b = samePts a b
  | .nil, .nil => by simp only [stripP]
  | .nil, .cons _ _ _ => by simp only [stripP]
  | .cons _ _ _, .nil => by simp only [stripP, samePts]
  | .cons p t r, .cons q u s => by simp only [stripP, samePts, plainP, stripPh, stripWd, sameWds_pl, sameTy_l t u, samePts_l r s]
end
mutual
theorem sameTy_r : ∀ a b : Ty, sameTy a (stripT b) = sameTy a b
  | .mk h ps, .mk k qs => by simp only [stripT, sameTy, sameHd, stripHd, stripWd, sameWds_pr, samePts_r ps qs]
theorem samePts_r : ∀ a b : Pts, samePts a (stripP b) = samePts a b
  | .nil, .nil => by simp only [stripP]
  | .cons _ _ _, .nil => by simp only [stripP]
  | .nil, .cons _ _ _ => by simp only [stripP, samePts]
  | .cons p t r, .cons q u s => by simp only [stripP, samePts, plainP, stripPh, stripWd, sameWds_pr, sameTy_r t u, samePts_r r s]
end
theorem eqNms_strip : ∀ a b : List (Wd × Ty), eqNms (a.map stripNm) (b.map stripNm) = sameNms a b
  | [], [] => rfl
  | [], _ :: _ => rfl
  | _ :: _, [] => rfl
  | x :: r, y :: s => by
    have := eqNms_strip r s
    simp only [List.map_cons, eqNms, sameNms, this, nmB, stripNm, sameTy_l, sameTy_r]
    rw [Bool.eq_iff_iff]
    simp [stripWd]
    intro _ _
    exact ⟨fun h => of_decide_eq_true h, fun h => decide_eq_true h⟩
end Go.Proofs.Ytmphiikdhifhjaa
set_option maxRecDepth 100000
namespace Go.Proofs.Ytmphiikdhifhjaa
open Go Go.RowKit Dv Try

theorem nmTx_succ {l : List Wd} {i : Nat} {x : Wd} (h : l[i]? = some x) : nmTx (l.take (i + 1)) = nmTx (l.take i) ++ [x.s] := by
  rw [List.take_add_one, h]; simp [nmTx]
theorem dup_mem (l : List Wd) (s : ByteArray) : dupBefore l s = true ↔ s ∈ nmTx l := by
  simp only [dupBefore, List.any_eq_true, decide_eq_true_eq, nmTx, List.mem_map]

theorem nodup_succ {l : List Wd} {i : Nat} {x : Wd} (h : l[i]? = some x) (hn : (nmTx (l.take i)).Nodup) : (nmTx (l.take (i + 1))).Nodup ↔ dupBefore (l.take i) x.s = false := by
  rw [nmTx_succ h, List.nodup_append]
  constructor
  · rintro ⟨_, _, h3⟩
    cases hb : dupBefore (l.take i) x.s
    · rfl
    · exact absurd rfl (h3 x.s ((dup_mem _ _).1 hb) x.s (by simp))
  · intro hb
    refine ⟨hn, by simp, fun a ha b hb2 => ?_⟩
    simp only [List.mem_singleton] at hb2
    subst hb2
    rintro rfl
    rw [(dup_mem _ _).2 ha] at hb
    cases hb

/-- The names so far being unlike, both say the same of the next. -/
theorem listed_eq {l : List Wd} {i : Nat} {x : Wd} (a : Int) (h : l[i]? = some x) (hn : (nmTx (l.take i)).Nodup) :
    listedP (nmTx (l.take (i + 1))) x.s a = if listedF l i x ≠ 0 then (listedF l i x, a) else (0, 0) := by
  have hs := nodup_succ h hn
  unfold listedP listedF
  by_cases h1 : nameOK x.s = true
  · rw [if_pos h1, if_pos h1]
    by_cases h2 : dupBefore (l.take i) x.s = true
    · rw [if_pos h2, if_neg (fun hc => by rw [hs.1 hc] at h2; cases h2)]; rfl
    · rw [if_neg h2, if_pos (hs.2 (by simpa using h2))]; rfl
  · rw [if_neg h1, if_neg h1]; rfl

/-- Where both find nothing, the names stay unlike. -/
theorem listed_nodup {l : List Wd} {i : Nat} {x : Wd} (h : l[i]? = some x) (hn : (nmTx (l.take i)).Nodup) (hz : listedF l i x = 0) : (nmTx (l.take (i + 1))).Nodup := by
  refine (nodup_succ h hn).2 ?_
  unfold listedF at hz
  by_cases h1 : nameOK x.s = true
  · rw [if_pos h1] at hz
    by_cases h2 : dupBefore (l.take i) x.s = true
    · rw [if_pos h2] at hz; simp at hz
    · simpa using h2
  · rw [if_neg h1] at hz; simp at hz

/-- The enum's names: the first fault, from the e-th name on. -/
theorem enum_from (l : List Wd) : ∀ (d e : Nat), e + d = l.length → (enumP l e) = (0, 0) → (nmTx (l.take e)).Nodup → enumP l l.length = enumL l e (l.drop e)
  | 0, e, hd, hz, hn => by
    have : e = l.length := by omega
    subst this
    rw [hz, List.drop_length]; rfl
  | d + 1, e, hd, hz, hn => by
    obtain ⟨x, hx⟩ : ∃ x, l[e]? = some x := ⟨_, List.getElem?_eq_getElem (by omega)⟩
    have h1 := enumP_step (by rw [hz]) hx
    rw [listed_eq x.a hx hn] at h1
    rw [drop_cons hx]
    simp only [enumL]
    by_cases hf : listedF l e x ≠ 0
    · rw [if_pos hf] at h1 ⊢
      have hst := enumP_stay (l := l) (e := e + 1) (by rw [h1]; exact hf) d
      rw [show e + 1 + d = l.length by omega] at hst
      rw [hst, h1]
    · rw [if_neg hf] at h1 ⊢
      exact enum_from l d (e + 1) (by omega) h1 (listed_nodup hx hn (by simpa using hf))

theorem kenum_eq (h : Hd) : kenumF h = enumWd h := by
  unfold kenumF enumWd
  by_cases h0 : h.names = []
  · rw [if_pos h0, if_pos (by simp [h0])]
  · rw [if_neg h0, if_neg (by simpa using h0)]
    by_cases h1 : 64 < h.names.length
    · rw [if_pos h1, if_pos h1]
    · rw [if_neg h1, if_neg h1]
      have := enum_from h.names h.names.length 0 (by omega) rfl (by simp [nmTx])
      simpa using this

/-- A bare part's only like. -/
def bareOf (p : Ph) : Ph := ⟨p.name, true, [], 0, 0, 0, 0, []⟩
theorem bare_eq (p : Ph) (t : Ty) : samePartB p t (bareOf p) zeroTy = (plainP p barePh && sameTy t zeroTy) := by
  have e : plainP p (bareOf p) = plainP p barePh := rfl
  unfold samePartB
  rw [e]
  have e2 : decide (p.name.s = (bareOf p).name.s) = true := decide_eq_true rfl
  rw [e2, Bool.true_and]
theorem empty_eq (p : Ph) : samePartB p zeroTy zeroPh zeroTy = (decide (p.name.s = emptyB) && plainP p zeroPh) := by
  have e : sameTy zeroTy zeroTy = true := by simp [zeroTy, zeroHd, sameTy, sameHd, samePts, sameWds]
  simp only [samePartB, e, Bool.and_true]
  rfl
end Go.Proofs.Ytmphiikdhifhjaa
set_option maxRecDepth 100000
namespace Go.Proofs.Ytmphiikdhifhjaa
open Go Go.RowKit Dv Try

/-- What one of the checker's methods says: the fault, and how many types so far, where nothing is wrong. -/
def ChkR (x : Ft × Int) (r : DV) (os : List (List DV)) (_ : List TkE) : Prop :=
  r = x.1.d ∧ ∃ z : Int, os = [[.v (.int .i64 z)]] ∧ (x.1.1 = 0 → z = x.2)

theorem chkR_cl {x : Ft × Int} : ∀ r os tk, ChkR x r os tk → clB 0 0 r = true ∧ ∀ cs2 ∈ os, clB.clL 0 0 cs2 = true := by
  rintro r os tk ⟨rfl, z, rfl, _⟩
  refine ⟨rfl, fun cs2 h => ?_⟩
  simp only [List.mem_singleton] at h
  subst h
  rfl

/-- The contract of check, for types of at most this weight. -/
def KChk (k : Nat) : Prop := ∀ (t : Ty) (depth m : Int), t.wt ≤ k → t.wt ≤ 1099511627776 → 0 ≤ depth → depth ≤ 25 → 0 ≤ m → m ≤ 512 →
  Ev Try.prog 29 [.loc 0 0, .agg (dTy t), .v (.int .i64 depth)] [[.v (.int .i64 m)]] [] (ChkR (wrong t depth m))

/-- What part says of a part. -/
def partF (p : Ph) (t : Ty) (un : Bool) (depth m : Int) : Ft × Int :=
  if p.bare = true then (if un = false ∨ samePartB p t (bareOf p) zeroTy = false then ((19, p.name.a), m) else ((0, 0), m))
  else if (partWd p).1 ≠ 0 then (partWd p, m)
  else wrong t (depth + 1) m

/-- What is left at the end: the value's form. -/
theorem chkR_mk {x : Ft × Int} {f : Ft} {m z : Int} (h : x = (f, m)) (hz : f.1 = 0 → z = m) {tk : List TkE} : ChkR x f.d [[.v (.int .i64 z)]] tk := by
  subst h
  exact ⟨rfl, z, rfl, hz⟩

theorem kpart_spec (k : Nat) (ih : KChk k) (p : Ph) (t : Ty) (un : Bool) (depth m : Int) (hk : t.wt ≤ k) (hp : p.wt ≤ 1099511627776) (hbig : t.wt ≤ 1099511627776) (hd0 : 0 ≤ depth) (hd1 : depth ≤ 24) (hm0 : 0 ≤ m) (hm1 : m ≤ 512) :
    Ev Try.prog 46 [.loc 0 0, .agg (dPh p (dTy t)), .v (.bool un), .v (.int .i64 depth)] [[.v (.int .i64 m)]] [] (ChkR (partF p t un depth m)) := by
  have hp' := hp
  simp only [Ph.wt] at hp'
  have hsame := samePart_of p (bareOf p) t zeroTy hp (by simp only [Ph.wt, bareOf, wdsWt]; omega) (ksame_spec t zeroTy hbig (by decide))
  have hih := ih t (depth + 1) m hk hbig (by omega) (by omega) hm0 hm1
  obtain ⟨u, us⟩ := t
  have hcoa := kcoarse_spec p (dTy (.mk u us)) (.mk u us) rfl hp
  have hS := partF.eq_def p (.mk u us) un depth m
  generalize partF p (.mk u us) un depth m = F at hS ⊢
  obtain ⟨nm, bare, lab, wide, ck, cn, ca, cl⟩ := p
  simp only at hS hp' hsame
  cases bare with
  | true =>
    rw [if_pos rfl] at hS
    cases un with
    | true =>
      refine ev_go (P := Try.prog) tt tt_ok 5000 68 [.cell 8 56] Try.func46 rfl Try.ntmps46 rfl (Nat.le_of_ble_eq_true rfl) (fun E9 w9 hn9 hm9 => ?_)
      refine call_p (enters_of Try.func28 (by decide +kernel) rfl) (hsame) (by repeat' (first | exact rfl | exact trivial | exact Or.inr (Or.inl ⟨_, rfl⟩) | exact Or.inr ⟨_, rfl⟩ | exact Or.inl ⟨rfl, rfl⟩ | exact Or.inl rfl | refine Or.inr ⟨_, _, rfl, Nat.zero_le _, rfl, ?_⟩ | refine ⟨_, _, rfl, ?_, ?_⟩ | refine ⟨_, rfl, ?_⟩ | refine Or.inr (Or.inr (Or.inr ⟨_, _, rfl, ?_⟩)) | exact Or.inl rfl | refine Or.inr ?_)) rfl ?_
      refine br (fun q => ?_) (fun q => ?_)
      · have q : samePartB ⟨nm, true, lab, wide, ck, cn, ca, cl⟩ (.mk u us) (bareOf ⟨nm, true, lab, wide, ck, cn, ca, cl⟩) zeroTy = false := by simpa [show (lastG (21, false) [(18, true)]).snd = true from rfl, pickB] using q
        rw [if_pos (.inr q)] at hS
        refine call_p (enters_of Try.func36 (by decide +kernel) rfl) (bad_spec 19 nm.a) (by repeat' (first | exact rfl | exact trivial | exact Or.inr (Or.inl ⟨_, rfl⟩) | exact Or.inr ⟨_, rfl⟩ | exact Or.inl ⟨rfl, rfl⟩ | exact Or.inl rfl | refine Or.inr ⟨_, _, rfl, Nat.zero_le _, rfl, ?_⟩ | refine ⟨_, _, rfl, ?_, ?_⟩ | refine ⟨_, rfl, ?_⟩ | refine Or.inr (Or.inr (Or.inr ⟨_, _, rfl, ?_⟩)) | exact Or.inl rfl | refine Or.inr ?_)) rfl ?_
        exact ⟨_, _, (by repeat' (first | exact rfl | exact trivial | exact Or.inr (Or.inl ⟨_, rfl⟩) | exact Or.inr ⟨_, rfl⟩ | exact Or.inl ⟨rfl, rfl⟩ | exact Or.inl rfl | refine Or.inr ⟨_, _, rfl, Nat.zero_le _, rfl, ?_⟩ | refine ⟨_, _, rfl, ?_, ?_⟩ | refine ⟨_, rfl, ?_⟩ | refine Or.inr (Or.inr (Or.inr ⟨_, _, rfl, ?_⟩)) | exact Or.inl rfl | refine Or.inr ?_)), (by repeat' (first | exact rfl | exact trivial | exact Or.inr (Or.inl ⟨_, rfl⟩) | exact Or.inr ⟨_, rfl⟩ | exact Or.inl ⟨rfl, rfl⟩ | exact Or.inl rfl | refine Or.inr ⟨_, _, rfl, Nat.zero_le _, rfl, ?_⟩ | refine ⟨_, _, rfl, ?_, ?_⟩ | refine ⟨_, rfl, ?_⟩ | refine Or.inr (Or.inr (Or.inr ⟨_, _, rfl, ?_⟩)) | exact Or.inl rfl | refine Or.inr ?_)), chkR_mk (tk := []) (f := (19, nm.a)) hS (fun _ => rfl)⟩
      · have q : samePartB ⟨nm, true, lab, wide, ck, cn, ca, cl⟩ (.mk u us) (bareOf ⟨nm, true, lab, wide, ck, cn, ca, cl⟩) zeroTy = true := by simpa [show (lastG (21, false) [(18, true)]).snd = true from rfl, pickB] using q
        rw [if_neg (by simp [q])] at hS
        exact ⟨_, _, (by repeat' (first | exact rfl | exact trivial | exact Or.inr (Or.inl ⟨_, rfl⟩) | exact Or.inr ⟨_, rfl⟩ | exact Or.inl ⟨rfl, rfl⟩ | exact Or.inl rfl | refine Or.inr ⟨_, _, rfl, Nat.zero_le _, rfl, ?_⟩ | refine ⟨_, _, rfl, ?_, ?_⟩ | refine ⟨_, rfl, ?_⟩ | refine Or.inr (Or.inr (Or.inr ⟨_, _, rfl, ?_⟩)) | exact Or.inl rfl | refine Or.inr ?_)), (by repeat' (first | exact rfl | exact trivial | exact Or.inr (Or.inl ⟨_, rfl⟩) | exact Or.inr ⟨_, rfl⟩ | exact Or.inl ⟨rfl, rfl⟩ | exact Or.inl rfl | refine Or.inr ⟨_, _, rfl, Nat.zero_le _, rfl, ?_⟩ | refine ⟨_, _, rfl, ?_, ?_⟩ | refine ⟨_, rfl, ?_⟩ | refine Or.inr (Or.inr (Or.inr ⟨_, _, rfl, ?_⟩)) | exact Or.inl rfl | refine Or.inr ?_)), chkR_mk (tk := []) (f := (0, 0)) hS (fun _ => rfl)⟩
    | false =>
      refine ev_go (P := Try.prog) tt tt_ok 5000 68 [.cell 8 56] Try.func46 rfl Try.ntmps46 rfl (Nat.le_of_ble_eq_true rfl) (fun E9 w9 hn9 hm9 => ?_)
      rw [if_pos (.inl rfl)] at hS
      refine call_p (enters_of Try.func36 (by decide +kernel) rfl) (bad_spec 19 nm.a) (by repeat' (first | exact rfl | exact trivial | exact Or.inr (Or.inl ⟨_, rfl⟩) | exact Or.inr ⟨_, rfl⟩ | exact Or.inl ⟨rfl, rfl⟩ | exact Or.inl rfl | refine Or.inr ⟨_, _, rfl, Nat.zero_le _, rfl, ?_⟩ | refine ⟨_, _, rfl, ?_, ?_⟩ | refine ⟨_, rfl, ?_⟩ | refine Or.inr (Or.inr (Or.inr ⟨_, _, rfl, ?_⟩)) | exact Or.inl rfl | refine Or.inr ?_)) rfl ?_
      exact ⟨_, _, (by repeat' (first | exact rfl | exact trivial | exact Or.inr (Or.inl ⟨_, rfl⟩) | exact Or.inr ⟨_, rfl⟩ | exact Or.inl ⟨rfl, rfl⟩ | exact Or.inl rfl | refine Or.inr ⟨_, _, rfl, Nat.zero_le _, rfl, ?_⟩ | refine ⟨_, _, rfl, ?_, ?_⟩ | refine ⟨_, rfl, ?_⟩ | refine Or.inr (Or.inr (Or.inr ⟨_, _, rfl, ?_⟩)) | exact Or.inl rfl | refine Or.inr ?_)), (by repeat' (first | exact rfl | exact trivial | exact Or.inr (Or.inl ⟨_, rfl⟩) | exact Or.inr ⟨_, rfl⟩ | exact Or.inl ⟨rfl, rfl⟩ | exact Or.inl rfl | refine Or.inr ⟨_, _, rfl, Nat.zero_le _, rfl, ?_⟩ | refine ⟨_, _, rfl, ?_, ?_⟩ | refine ⟨_, rfl, ?_⟩ | refine Or.inr (Or.inr (Or.inr ⟨_, _, rfl, ?_⟩)) | exact Or.inl rfl | refine Or.inr ?_)), chkR_mk (tk := []) (f := (19, nm.a)) hS (fun _ => rfl)⟩
  | false =>
    rw [if_neg (by simp)] at hS
    refine ev_go (P := Try.prog) tt tt_ok 5000 68 [.cell 8 56] Try.func46 rfl Try.ntmps46 rfl (Nat.le_of_ble_eq_true rfl) (fun E9 w9 hn9 hm9 => ?_)
    refine br (fun hw => ?_) (fun hw => ?_)
    · have hw : wide < 0 ∨ 64 < wide := by simpa [pickB_or] using hw
      have hP : partWd ⟨nm, false, lab, wide, ck, cn, ca, cl⟩ = (20, nm.a) := by simp only [partWd, if_pos hw]
      rw [hP, if_pos (by simp)] at hS
      refine call_p (enters_of Try.func36 (by decide +kernel) rfl) (bad_spec 20 nm.a) (by repeat' (first | exact rfl | exact trivial | exact Or.inr (Or.inl ⟨_, rfl⟩) | exact Or.inr ⟨_, rfl⟩ | exact Or.inl ⟨rfl, rfl⟩ | exact Or.inl rfl | refine Or.inr ⟨_, _, rfl, Nat.zero_le _, rfl, ?_⟩ | refine ⟨_, _, rfl, ?_, ?_⟩ | refine ⟨_, rfl, ?_⟩ | refine Or.inr (Or.inr (Or.inr ⟨_, _, rfl, ?_⟩)) | exact Or.inl rfl | refine Or.inr ?_)) rfl ?_
      exact ⟨_, _, (by repeat' (first | exact rfl | exact trivial | exact Or.inr (Or.inl ⟨_, rfl⟩) | exact Or.inr ⟨_, rfl⟩ | exact Or.inl ⟨rfl, rfl⟩ | exact Or.inl rfl | refine Or.inr ⟨_, _, rfl, Nat.zero_le _, rfl, ?_⟩ | refine ⟨_, _, rfl, ?_, ?_⟩ | refine ⟨_, rfl, ?_⟩ | refine Or.inr (Or.inr (Or.inr ⟨_, _, rfl, ?_⟩)) | exact Or.inl rfl | refine Or.inr ?_)), (by repeat' (first | exact rfl | exact trivial | exact Or.inr (Or.inl ⟨_, rfl⟩) | exact Or.inr ⟨_, rfl⟩ | exact Or.inl ⟨rfl, rfl⟩ | exact Or.inl rfl | refine Or.inr ⟨_, _, rfl, Nat.zero_le _, rfl, ?_⟩ | refine ⟨_, _, rfl, ?_, ?_⟩ | refine ⟨_, rfl, ?_⟩ | refine Or.inr (Or.inr (Or.inr ⟨_, _, rfl, ?_⟩)) | exact Or.inl rfl | refine Or.inr ?_)), chkR_mk (tk := []) (f := (20, nm.a)) hS (fun _ => rfl)⟩
    have hw : ¬ (wide < 0 ∨ 64 < wide) := by simp [pickB_or] at hw; omega
    refine call_p (enters_of Try.func53 (by decide +kernel) rfl) (klabel_spec lab (by omega)) (by repeat' (first | exact rfl | exact trivial | exact Or.inr (Or.inl ⟨_, rfl⟩) | exact Or.inr ⟨_, rfl⟩ | exact Or.inl ⟨rfl, rfl⟩ | exact Or.inl rfl | refine Or.inr ⟨_, _, rfl, Nat.zero_le _, rfl, ?_⟩ | refine ⟨_, _, rfl, ?_, ?_⟩ | refine ⟨_, rfl, ?_⟩ | refine Or.inr (Or.inr (Or.inr ⟨_, _, rfl, ?_⟩)) | exact Or.inl rfl | refine Or.inr ?_)) rfl ?_
    refine br (fun hb => ?_) (fun hb => ?_)
    · have hb : (labelF lab).1 ≠ 0 := by simpa using hb
      have hP : partWd ⟨nm, false, lab, wide, ck, cn, ca, cl⟩ = labelF lab := by simp only [partWd, if_neg hw, if_pos hb]
      rw [hP, if_pos hb] at hS
      exact ⟨_, _, (by repeat' (first | exact rfl | exact trivial | exact Or.inr (Or.inl ⟨_, rfl⟩) | exact Or.inr ⟨_, rfl⟩ | exact Or.inl ⟨rfl, rfl⟩ | exact Or.inl rfl | refine Or.inr ⟨_, _, rfl, Nat.zero_le _, rfl, ?_⟩ | refine ⟨_, _, rfl, ?_, ?_⟩ | refine ⟨_, rfl, ?_⟩ | refine Or.inr (Or.inr (Or.inr ⟨_, _, rfl, ?_⟩)) | exact Or.inl rfl | refine Or.inr ?_)), (by repeat' (first | exact rfl | exact trivial | exact Or.inr (Or.inl ⟨_, rfl⟩) | exact Or.inr ⟨_, rfl⟩ | exact Or.inl ⟨rfl, rfl⟩ | exact Or.inl rfl | refine Or.inr ⟨_, _, rfl, Nat.zero_le _, rfl, ?_⟩ | refine ⟨_, _, rfl, ?_, ?_⟩ | refine ⟨_, rfl, ?_⟩ | refine Or.inr (Or.inr (Or.inr ⟨_, _, rfl, ?_⟩)) | exact Or.inl rfl | refine Or.inr ?_)), chkR_mk (tk := []) (f := labelF lab) hS (fun _ => rfl)⟩
    have hb : (labelF lab).1 = 0 := by simpa using hb
    have hP : partWd ⟨nm, false, lab, wide, ck, cn, ca, cl⟩ = coarseF ⟨nm, false, lab, wide, ck, cn, ca, cl⟩ := by simp only [partWd, if_neg hw]; rw [if_neg (by simp [hb])]
    rw [hP] at hS
    refine call_p (enters_of Try.func54 (by decide +kernel) rfl) (hcoa) (by repeat' (first | exact rfl | exact trivial | exact Or.inr (Or.inl ⟨_, rfl⟩) | exact Or.inr ⟨_, rfl⟩ | exact Or.inl ⟨rfl, rfl⟩ | exact Or.inl rfl | refine Or.inr ⟨_, _, rfl, Nat.zero_le _, rfl, ?_⟩ | refine ⟨_, _, rfl, ?_, ?_⟩ | refine ⟨_, rfl, ?_⟩ | refine Or.inr (Or.inr (Or.inr ⟨_, _, rfl, ?_⟩)) | exact Or.inl rfl | refine Or.inr ?_)) rfl ?_
    refine br (fun hc => ?_) (fun hc => ?_)
    · have hc : (coarseF ⟨nm, false, lab, wide, ck, cn, ca, cl⟩).1 ≠ 0 := by simpa using hc
      rw [if_pos hc] at hS
      exact ⟨_, _, (by repeat' (first | exact rfl | exact trivial | exact Or.inr (Or.inl ⟨_, rfl⟩) | exact Or.inr ⟨_, rfl⟩ | exact Or.inl ⟨rfl, rfl⟩ | exact Or.inl rfl | refine Or.inr ⟨_, _, rfl, Nat.zero_le _, rfl, ?_⟩ | refine ⟨_, _, rfl, ?_, ?_⟩ | refine ⟨_, rfl, ?_⟩ | refine Or.inr (Or.inr (Or.inr ⟨_, _, rfl, ?_⟩)) | exact Or.inl rfl | refine Or.inr ?_)), (by repeat' (first | exact rfl | exact trivial | exact Or.inr (Or.inl ⟨_, rfl⟩) | exact Or.inr ⟨_, rfl⟩ | exact Or.inl ⟨rfl, rfl⟩ | exact Or.inl rfl | refine Or.inr ⟨_, _, rfl, Nat.zero_le _, rfl, ?_⟩ | refine ⟨_, _, rfl, ?_, ?_⟩ | refine ⟨_, rfl, ?_⟩ | refine Or.inr (Or.inr (Or.inr ⟨_, _, rfl, ?_⟩)) | exact Or.inl rfl | refine Or.inr ?_)), chkR_mk (tk := []) (f := coarseF ⟨nm, false, lab, wide, ck, cn, ca, cl⟩) hS (fun _ => rfl)⟩
    have hc : (coarseF ⟨nm, false, lab, wide, ck, cn, ca, cl⟩).1 = 0 := by simpa using hc
    rw [if_neg (by simp [hc])] at hS
    refine call_o (enters_of Try.func29 (by decide +kernel) rfl) rfl rfl (by repeat' (first | exact rfl | exact trivial | exact Or.inr (Or.inl ⟨_, rfl⟩) | exact Or.inr ⟨_, rfl⟩ | exact Or.inl ⟨rfl, rfl⟩ | exact Or.inl rfl | refine Or.inr ⟨_, _, rfl, Nat.zero_le _, rfl, ?_⟩ | refine ⟨_, _, rfl, ?_, ?_⟩ | refine ⟨_, rfl, ?_⟩ | refine Or.inr (Or.inr (Or.inr ⟨_, _, rfl, ?_⟩)) | exact Or.inl rfl | refine Or.inr ?_)) (by repeat' (first | exact rfl | exact trivial | exact Or.inr (Or.inl ⟨_, rfl⟩) | exact Or.inr ⟨_, rfl⟩ | exact Or.inl ⟨rfl, rfl⟩ | exact Or.inl rfl | refine Or.inr ⟨_, _, rfl, Nat.zero_le _, rfl, ?_⟩ | refine ⟨_, _, rfl, ?_, ?_⟩ | refine ⟨_, rfl, ?_⟩ | exact congrArg (fun z => DV.v (.int .i64 z)) (wrap64 (by omega) (by omega)) | refine Or.inr (Or.inr (Or.inr ⟨_, _, rfl, ?_⟩)) | exact Or.inl rfl | refine Or.inr ?_)) hih chkR_cl (fun r cs2 hr => ?_)
    obtain ⟨rfl, z, hz, hzz⟩ := hr
    simp only [List.cons.injEq, and_true] at hz
    subst hz
    exact ⟨_, _, (by repeat' (first | exact rfl | exact trivial | exact Or.inr (Or.inl ⟨_, rfl⟩) | exact Or.inr ⟨_, rfl⟩ | exact Or.inl ⟨rfl, rfl⟩ | exact Or.inl rfl | refine Or.inr ⟨_, _, rfl, Nat.zero_le _, rfl, ?_⟩ | refine ⟨_, _, rfl, ?_, ?_⟩ | refine ⟨_, rfl, ?_⟩ | refine Or.inr (Or.inr (Or.inr ⟨_, _, rfl, ?_⟩)) | exact Or.inl rfl | refine Or.inr ?_)), (by repeat' (first | exact rfl | exact trivial | exact Or.inr (Or.inl ⟨_, rfl⟩) | exact Or.inr ⟨_, rfl⟩ | exact Or.inl ⟨rfl, rfl⟩ | exact Or.inl rfl | refine Or.inr ⟨_, _, rfl, Nat.zero_le _, rfl, ?_⟩ | refine ⟨_, _, rfl, ?_, ?_⟩ | refine ⟨_, rfl, ?_⟩ | refine Or.inr (Or.inr (Or.inr ⟨_, _, rfl, ?_⟩)) | exact Or.inl rfl | refine Or.inr ?_)), chkR_mk (tk := []) (f := (wrong (.mk u us) (depth + 1) m).1) hS hzz⟩
end Go.Proofs.Ytmphiikdhifhjaa
set_option maxRecDepth 100000
namespace Go.Proofs.Ytmphiikdhifhjaa
open Go Go.RowKit Dv Try

theorem wrongPts_part {kind : Int} {all : List Wd} {i : Nat} {p : Ph} {t : Ty} {r : Pts} {depth m : Int} (hk : kind = 7 ∨ kind = 8) (hl : listedF all i p.name = 0) :
    wrongPts kind all i (.cons p t r) depth m = if (partF p t (decide (kind = 8)) depth m).1.1 ≠ 0 then partF p t (decide (kind = 8)) depth m else wrongPts kind all (i + 1) r depth (partF p t (decide (kind = 8)) depth m).2 := by
  simp only [wrongPts]
  rw [if_neg (by simp [hl])]
  unfold partF
  by_cases hb : p.bare = true
  · rw [if_pos hb, if_pos hb, bare_eq]
    by_cases h7 : kind = 7
    · subst h7
      rw [if_pos (.inl rfl), if_pos (c := decide ((7 : Int) = 8) = false ∨ _) (.inl (by simp)), if_pos (by simp)]
    · have h8 : kind = 8 := by omega
      subst h8
      by_cases h : sameTy t zeroTy = false ∨ plainP p barePh = false
      · have h' : decide ((8 : Int) = 8) = false ∨ (plainP p barePh && sameTy t zeroTy) = false := .inr (by rcases h with h | h <;> simp [h])
        rw [if_pos (.inr h), if_pos h', if_pos (by simp)]
      · have h1 : sameTy t zeroTy = true := by
          cases hc : sameTy t zeroTy
          · exact absurd (.inl hc) h
          · rfl
        have h2 : plainP p barePh = true := by
          cases hc : plainP p barePh
          · exact absurd (.inr hc) h
          · rfl
        have h' : ¬ (decide ((8 : Int) = 8) = false ∨ (plainP p barePh && sameTy t zeroTy) = false) := by simp [h1, h2]
        rw [if_neg (by simp [h1, h2]), if_neg h', if_neg (by simp)]
  · rw [if_neg hb, if_neg hb]
    by_cases hP : (partWd p).1 ≠ 0
    · rw [if_pos hP, if_pos hP, if_pos hP]
    · rw [if_neg hP, if_neg hP]

theorem partF_ok {p : Ph} {t : Ty} {un : Bool} {depth m : Int} (hm0 : 0 ≤ m) (hm1 : m ≤ 512) (h : (partF p t un depth m).1.1 = 0) : (partF p t un depth m).1 = (0, 0) ∧ 0 ≤ (partF p t un depth m).2 ∧ (partF p t un depth m).2 ≤ 512 := by
  have hw := wrong_ok t (depth + 1) m hm0
  unfold partF at h ⊢
  by_cases hb : p.bare = true
  · rw [if_pos hb] at h ⊢
    split at h
    · simp at h
    · rename_i hc
      rw [if_neg hc]
      exact ⟨rfl, hm0, hm1⟩
  · rw [if_neg hb] at h ⊢
    by_cases hP : (partWd p).1 ≠ 0
    · rw [if_pos hP] at h; exact absurd h hP
    · rw [if_neg hP] at h ⊢
      exact hw h

abbrev kpartsSt (h : Hd) (ps : Pts) (n e : Nat) (depth m : Int) : St :=
  ⟨[(0, ⟨[], .loc 0 0⟩), (2, ⟨[], .v (.int .i64 depth)⟩), (4, ⟨[], .loc 1 0⟩), (6, ⟨[], .loc 2 0⟩), (38, ⟨[], .sl 18 (dPts ps) none⟩), (39, ⟨[], .v (.int .i64 (dPts ps).length)⟩), (40, ⟨[], .v (.int .i64 e)⟩), (7, ⟨[], .sl 1 (dBs (nmTx ((pNames ps).take e))) (some 0)⟩)],
   [[.v (.int .i64 m)], dTy (.mk h ps), [.v (.int .i64 0), .v (.int .i64 0)]], [⟨n, 9, 1⟩]⟩

theorem kparts_spec (k : Nat) (ih : KChk k) (h : Hd) (ps : Pts) (depth m : Int) (hkd : h.kind = 7 ∨ h.kind = 8) (hk : ps.wt ≤ k) (hbig : (Ty.mk h ps).wt ≤ 1099511627776) (hd0 : 0 ≤ depth) (hd1 : depth ≤ 24) (hm0 : 0 ≤ m) (hm1 : m ≤ 512) :
    Ev Try.prog 40 [.loc 0 0, .agg (dTy (.mk h ps)), .v (.int .i64 depth)] [[.v (.int .i64 m)]] [] (ChkR (partsF h ps depth m)) := by
  simp only [Ty.wt, Hd.wt] at hbig
  have hpl := ps.wt_len
  have hnl := pNames_len ps
  have hnw := pNames_wt ps
  have hS := partsF.eq_def h ps depth m
  generalize partsF h ps depth m = F at hS ⊢
  refine ev_go (P := Try.prog) tt tt_ok 5000 72 [.cell 6 56] Try.func40 rfl Try.ntmps40 rfl (Nat.le_of_ble_eq_true rfl) (fun E9 w9 hn9 hm9 => ?_)
  refine br (fun c1 => ?_) (fun c1 => ?_)
  · have c1 : h.kind = 8 ∧ ps.len = 0 := by
      simp [pickB_and, dPts_len] at c1
      exact ⟨c1.1, by omega⟩
    rw [if_pos c1] at hS
    refine call_p (enters_of Try.func36 (by decide +kernel) rfl) (bad_spec 15 h.at') (by repeat' (first | exact rfl | exact trivial | exact Or.inr (Or.inl ⟨_, rfl⟩) | exact Or.inr ⟨_, rfl⟩ | exact Or.inl ⟨rfl, rfl⟩ | exact Or.inl rfl | refine Or.inr ⟨_, _, rfl, Nat.zero_le _, rfl, ?_⟩ | refine ⟨_, _, rfl, ?_, ?_⟩ | refine ⟨_, rfl, ?_⟩ | refine Or.inr (Or.inr (Or.inr ⟨_, _, rfl, ?_⟩)) | exact Or.inl rfl | refine Or.inr ?_)) rfl ?_
    exact ⟨_, _, (by repeat' (first | exact rfl | exact trivial | exact Or.inr (Or.inl ⟨_, rfl⟩) | exact Or.inr ⟨_, rfl⟩ | exact Or.inl ⟨rfl, rfl⟩ | exact Or.inl rfl | refine Or.inr ⟨_, _, rfl, Nat.zero_le _, rfl, ?_⟩ | refine ⟨_, _, rfl, ?_, ?_⟩ | refine ⟨_, rfl, ?_⟩ | refine Or.inr (Or.inr (Or.inr ⟨_, _, rfl, ?_⟩)) | exact Or.inl rfl | refine Or.inr ?_)), (by repeat' (first | exact rfl | exact trivial | exact Or.inr (Or.inl ⟨_, rfl⟩) | exact Or.inr ⟨_, rfl⟩ | exact Or.inl ⟨rfl, rfl⟩ | exact Or.inl rfl | refine Or.inr ⟨_, _, rfl, Nat.zero_le _, rfl, ?_⟩ | refine ⟨_, _, rfl, ?_, ?_⟩ | refine ⟨_, rfl, ?_⟩ | refine Or.inr (Or.inr (Or.inr ⟨_, _, rfl, ?_⟩)) | exact Or.inl rfl | refine Or.inr ?_)), chkR_mk (tk := []) (f := (15, h.at')) hS (fun _ => rfl)⟩
  have c1 : ¬ (h.kind = 8 ∧ ps.len = 0) := by
    simp [pickB_and, dPts_len] at c1
    omega
  rw [if_neg c1] at hS
  refine br (fun c2 => ?_) (fun c2 => ?_)
  · have hlt : 64 < ps.len := by simp [dPts_len] at c2; omega
    obtain ⟨p, t, hx⟩ := Pts.get_lt hlt
    refine ⟨_, ⟨by omega, dPts_get hx⟩, ?_⟩
    refine call_p (enters_of Try.func36 (by decide +kernel) rfl) (bad_spec 8 p.name.a) (by repeat' (first | exact rfl | exact trivial | exact Or.inr (Or.inl ⟨_, rfl⟩) | exact Or.inr ⟨_, rfl⟩ | exact Or.inl ⟨rfl, rfl⟩ | exact Or.inl rfl | refine Or.inr ⟨_, _, rfl, Nat.zero_le _, rfl, ?_⟩ | refine ⟨_, _, rfl, ?_, ?_⟩ | refine ⟨_, rfl, ?_⟩ | refine Or.inr (Or.inr (Or.inr ⟨_, _, rfl, ?_⟩)) | exact Or.inl rfl | refine Or.inr ?_)) rfl ?_
    rw [if_pos hlt, pNames_get hx] at hS
    exact ⟨_, _, (by repeat' (first | exact rfl | exact trivial | exact Or.inr (Or.inl ⟨_, rfl⟩) | exact Or.inr ⟨_, rfl⟩ | exact Or.inl ⟨rfl, rfl⟩ | exact Or.inl rfl | refine Or.inr ⟨_, _, rfl, Nat.zero_le _, rfl, ?_⟩ | refine ⟨_, _, rfl, ?_, ?_⟩ | refine ⟨_, rfl, ?_⟩ | refine Or.inr (Or.inr (Or.inr ⟨_, _, rfl, ?_⟩)) | exact Or.inl rfl | refine Or.inr ?_)), (by repeat' (first | exact rfl | exact trivial | exact Or.inr (Or.inl ⟨_, rfl⟩) | exact Or.inr ⟨_, rfl⟩ | exact Or.inl ⟨rfl, rfl⟩ | exact Or.inl rfl | refine Or.inr ⟨_, _, rfl, Nat.zero_le _, rfl, ?_⟩ | refine ⟨_, _, rfl, ?_, ?_⟩ | refine ⟨_, rfl, ?_⟩ | refine Or.inr (Or.inr (Or.inr ⟨_, _, rfl, ?_⟩)) | exact Or.inl rfl | refine Or.inr ?_)), chkR_mk (tk := []) (f := (8, p.name.a)) hS (fun _ => rfl)⟩
  have c2 : ¬ 64 < ps.len := by simp [dPts_len] at c2; omega
  rw [if_neg c2] at hS
  refine loop_i (fun j st => ∃ (e : Nat) (m' : Int), st = kpartsSt h ps e e depth m' ∧ e ≤ ps.len ∧ 0 ≤ m' ∧ m' ≤ 512 ∧ (nmTx ((pNames ps).take e)).Nodup ∧
      F = wrongPts h.kind (pNames ps) e (ps.drop e) depth m' ∧ j = ps.len - e) ps.len (kpartsSt h ps 0 0 depth m) (weak_tok ⟨0, 9, 1⟩ rfl ⟨_, rfl⟩ rfl (by repeat' (first | exact rfl | exact we_rfl rfl | refine ⟨_, _, rfl, ?_, ?_⟩)) rfl rfl (by repeat' (first | exact trivial | exact we_rfl rfl | exact we_rfl rfl | exact we_tok (Nat.le_refl _) rfl | refine ⟨⟨_, rfl, ?_⟩, ?_⟩))) ⟨0, m, rfl, by omega, hm0, hm1, by simp [nmTx], hS, by omega⟩ ?_
  rintro j st ⟨e, m', rfl, he, hm0', hm1', hnd, heq, rfl⟩
  refine br (fun hL => ?_) (fun hL => ?_)
  · have hlt : e < ps.len := by simpa [dPts_len] using hL
    obtain ⟨p, t, hx⟩ := Pts.get_lt hlt
    have hwt := Pts.wt_mem (List.mem_of_getElem? hx)
    have hnx := pNames_get hx
    have hpw : p.name.s.size + 64 ≤ p.wt := by simp only [Ph.wt, Wd.wt]; omega
    rw [Pts.drop_cons hx] at heq
    have hlast : (nmTx ((pNames ps).take (e + 1)))[(nmTx ((pNames ps).take (e + 1))).length - 1]? = some p.name.s := by
      have hl1 : (nmTx ((pNames ps).take (e + 1))).length = e + 1 := by simp [nmTx]; omega
      rw [hl1]
      simp [nmTx, hnx]
    have hsp := listed_spec (nmTx ((pNames ps).take (e + 1))) p.name.s p.name.a hlast (by simp [nmTx]; omega) (by omega)
    have hsn := nmTx_snoc hnx
    rw [listed_eq p.name.a hnx hnd, ← hsn] at hsp
    have hpart := kpart_spec k ih p t (decide (h.kind = 8)) depth m' (by omega) (by omega) (by omega) hd0 hd1 hm0' hm1'
    obtain ⟨u, us⟩ := t
    refine ⟨_, ⟨by omega, dPts_get hx⟩, ?_⟩
    refine ⟨by simp [dBs_len, nmTx]; omega, ⟨by simp [dBs_len, nmTx, maxLen]; omega, by simp [dBs_len, nmTx]; omega⟩, ?_⟩
    refine call_p (enters_of Try.func44 (by decide +kernel) rfl) (hsp) (by repeat' (first | exact rfl | exact trivial | exact Or.inr (Or.inl ⟨_, rfl⟩) | exact Or.inr ⟨_, rfl⟩ | exact Or.inl ⟨rfl, rfl⟩ | exact Or.inl rfl | refine Or.inr ⟨_, _, rfl, Nat.zero_le _, rfl, ?_⟩ | refine ⟨_, _, rfl, ?_, ?_⟩ | refine ⟨_, rfl, ?_⟩ | refine Or.inr (Or.inr (Or.inr ⟨_, _, rfl, ?_⟩)) | exact Or.inl rfl | refine Or.inr ?_)) rfl ?_
    by_cases hl : listedF (pNames ps) e p.name ≠ 0
    · rw [if_pos hl]
      refine br (fun hf => ?_) (fun hf => ?_)
      · simp only [wrongPts] at heq
        rw [if_pos hl] at heq
        exact ⟨_, _, (by repeat' (first | exact rfl | exact trivial | exact Or.inr (Or.inl ⟨_, rfl⟩) | exact Or.inr ⟨_, rfl⟩ | exact Or.inl ⟨rfl, rfl⟩ | exact Or.inl rfl | refine Or.inr ⟨_, _, rfl, Nat.zero_le _, rfl, ?_⟩ | refine ⟨_, _, rfl, ?_, ?_⟩ | refine ⟨_, rfl, ?_⟩ | refine Or.inr (Or.inr (Or.inr ⟨_, _, rfl, ?_⟩)) | exact Or.inl rfl | refine Or.inr ?_)), (by repeat' (first | exact rfl | exact trivial | exact Or.inr (Or.inl ⟨_, rfl⟩) | exact Or.inr ⟨_, rfl⟩ | exact Or.inl ⟨rfl, rfl⟩ | exact Or.inl rfl | refine Or.inr ⟨_, _, rfl, Nat.zero_le _, rfl, ?_⟩ | refine ⟨_, _, rfl, ?_, ?_⟩ | refine ⟨_, rfl, ?_⟩ | refine Or.inr (Or.inr (Or.inr ⟨_, _, rfl, ?_⟩)) | exact Or.inl rfl | refine Or.inr ?_)), chkR_mk (tk := []) (f := (listedF (pNames ps) e p.name, p.name.a)) heq (fun _ => rfl)⟩
      · exact absurd (by simpa using hf) hl
    have hl : listedF (pNames ps) e p.name = 0 := by simpa using hl
    have hndn := listed_nodup hnx hnd hl
    rw [if_neg (by simp [hl])]
    rw [wrongPts_part hkd hl] at heq
    have hok := partF_ok (p := p) (t := .mk u us) (un := decide (h.kind = 8)) (depth := depth) hm0' hm1'
    generalize partF p (.mk u us) (decide (h.kind = 8)) depth m' = r at hpart heq hok
    obtain ⟨⟨fe, fa⟩, many⟩ := r
    simp only at heq hok
    refine call_o (enters_of Try.func46 (by decide +kernel) rfl) rfl rfl (by repeat' (first | exact rfl | exact trivial | exact Or.inr (Or.inl ⟨_, rfl⟩) | exact Or.inr ⟨_, rfl⟩ | exact Or.inl ⟨rfl, rfl⟩ | exact Or.inl rfl | refine Or.inr ⟨_, _, rfl, Nat.zero_le _, rfl, ?_⟩ | refine ⟨_, _, rfl, ?_, ?_⟩ | refine ⟨_, rfl, ?_⟩ | refine Or.inr (Or.inr (Or.inr ⟨_, _, rfl, ?_⟩)) | exact Or.inl rfl | refine Or.inr ?_)) (by repeat' (first | exact rfl | exact trivial | exact Or.inr (Or.inl ⟨_, rfl⟩) | exact Or.inr ⟨_, rfl⟩ | exact Or.inl ⟨rfl, rfl⟩ | exact Or.inl rfl | refine Or.inr ⟨_, _, rfl, Nat.zero_le _, rfl, ?_⟩ | refine ⟨_, _, rfl, ?_, ?_⟩ | refine ⟨_, rfl, ?_⟩ | refine Or.inr (Or.inr (Or.inr ⟨_, _, rfl, ?_⟩)) | exact Or.inl rfl | refine Or.inr ?_)) hpart chkR_cl (fun r cs2 hr => ?_)
    obtain ⟨rfl, z, hz, hzz⟩ := hr
    simp only [List.cons.injEq, and_true] at hz
    subst hz
    refine br (fun hd => ?_) (fun hd => ?_)
    · have hd : fe ≠ 0 := by simpa using hd
      rw [if_pos hd] at heq
      exact ⟨_, _, (by repeat' (first | exact rfl | exact trivial | exact Or.inr (Or.inl ⟨_, rfl⟩) | exact Or.inr ⟨_, rfl⟩ | exact Or.inl ⟨rfl, rfl⟩ | exact Or.inl rfl | refine Or.inr ⟨_, _, rfl, Nat.zero_le _, rfl, ?_⟩ | refine ⟨_, _, rfl, ?_, ?_⟩ | refine ⟨_, rfl, ?_⟩ | refine Or.inr (Or.inr (Or.inr ⟨_, _, rfl, ?_⟩)) | exact Or.inl rfl | refine Or.inr ?_)), (by repeat' (first | exact rfl | exact trivial | exact Or.inr (Or.inl ⟨_, rfl⟩) | exact Or.inr ⟨_, rfl⟩ | exact Or.inl ⟨rfl, rfl⟩ | exact Or.inl rfl | refine Or.inr ⟨_, _, rfl, Nat.zero_le _, rfl, ?_⟩ | refine ⟨_, _, rfl, ?_, ?_⟩ | refine ⟨_, rfl, ?_⟩ | refine Or.inr (Or.inr (Or.inr ⟨_, _, rfl, ?_⟩)) | exact Or.inl rfl | refine Or.inr ?_)), chkR_mk (tk := []) (f := (fe, fa)) heq (fun h0 => absurd h0 hd)⟩
    · have hd : fe = 0 := by simpa using hd
      subst hd
      obtain ⟨_, h2, h3⟩ := hok rfl
      rw [if_neg (by simp)] at heq
      have hz2 : z = many := hzz rfl
      subst hz2
      exact ⟨kpartsSt h ps (e + 1) (e + 1) depth z, (weak_mk ⟨_, rfl⟩ (by repeat' (first | exact rfl | exact we_rfl rfl | refine ⟨_, _, rfl, ?_, ?_⟩)) rfl rfl rfl (by repeat' (first | exact trivial | exact we_rfl rfl | exact we_int (nxt hlt (by omega)) | exact we_sl hsn rfl | refine ⟨⟨_, rfl, ?_⟩, ?_⟩))), ps.len - (e + 1), by omega, e + 1, z, rfl, by omega, h2, h3, hndn, heq, rfl⟩
  · have hge : e = ps.len := by simp [dPts_len] at hL; omega
    rw [hge, Pts.drop_len] at heq
    simp only [wrongPts] at heq
    exact ⟨_, _, (by repeat' (first | exact rfl | exact trivial | exact Or.inr (Or.inl ⟨_, rfl⟩) | exact Or.inr ⟨_, rfl⟩ | exact Or.inl ⟨rfl, rfl⟩ | exact Or.inl rfl | refine Or.inr ⟨_, _, rfl, Nat.zero_le _, rfl, ?_⟩ | refine ⟨_, _, rfl, ?_, ?_⟩ | refine ⟨_, rfl, ?_⟩ | refine Or.inr (Or.inr (Or.inr ⟨_, _, rfl, ?_⟩)) | exact Or.inl rfl | refine Or.inr ?_)), (by repeat' (first | exact rfl | exact trivial | exact Or.inr (Or.inl ⟨_, rfl⟩) | exact Or.inr ⟨_, rfl⟩ | exact Or.inl ⟨rfl, rfl⟩ | exact Or.inl rfl | refine Or.inr ⟨_, _, rfl, Nat.zero_le _, rfl, ?_⟩ | refine ⟨_, _, rfl, ?_, ?_⟩ | refine ⟨_, rfl, ?_⟩ | refine Or.inr (Or.inr (Or.inr ⟨_, _, rfl, ?_⟩)) | exact Or.inl rfl | refine Or.inr ?_)), chkR_mk (tk := []) (f := (0, 0)) heq (fun _ => rfl)⟩
end Go.Proofs.Ytmphiikdhifhjaa
