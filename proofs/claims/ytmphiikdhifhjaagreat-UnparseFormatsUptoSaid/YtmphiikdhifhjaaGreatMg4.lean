/- Part 4 of the proof: The program's text of a label, of what stands behind a part's type, of lists; The program's text of a type: field, tag, kind; unparse.Type, once the checker's check is known; A type with which nothing is wrong is fine for its text; Readable data as data of the evaluator: what the statement's form reads of an argument is a datum of the evaluator, of the argument's type, no heavier than what was read; What is read of a type, as the plain data; From a contract over data to what a law's statement asks: the arguments are read, the call returns true, all that was there stays; What all laws' frames share: the bulk, the program's closed facts; Types without places: plain, and the program's kinds.Strip; Schemas: plain, as the evaluator has them, without places; What is read of a schema, as the plain data; What the frames of laws over schemas share; The program's closed facts, each by itself (all at once they ask more memory than a Lean process has); The library's Builder at this program: what WriteString and String do to memory, exactly; Rules for the evaluator: the library's Builder, written and read; The program's and the reference's check of names that must differ; The checker's part, once check is known for lighter types; The checker's parts, once check is known for lighter types; The checker's one and check, once check is known for lighter types; so check; Which schemas may be written, and their text: plain, and the program's; The program's text of a schema; The reference's Wrong returns what is wrong with a type. No condition. -/
import Derived.Deep.Slices
import Derived.ChangeArms
import Derived.DataReads
import Derived.WalkKit
import Derived.ProofKit
import Derived.OpenShut
import Derived.Carry
import Derived.JoinedCond
import Derived.Test.YtmphiikdhifhjaaGreatRows
import Derived.Shelf.RegionOpenPlain
import Derived.Lib.Strings
import Derived.Lib.Slices
import Derived.Lib.Walk
import Derived.Lib.Builder
import Derived.Lib.AppendStr
import Derived.Lib.UnsafeStr
import Derived.Laws.Externs
import Derived.Lib.Hide
import Derived.Test.YtmphiikdhifhjaaGreatMg2
import Derived.Test.YtmphiikdhifhjaaGreatMg3
set_option linter.all false
set_option maxRecDepth 100000
namespace Go.Proofs.YtmphiikdhifhjaaGreat
open Go Go.RowKit Dv Tryz

theorem dStrs_snoc {L : List (List UInt8)} {e : Nat} {s : ByteArray} (h : L[e]? = some (tx s)) : dStrs (L.take e) ++ [[DV.v (.string s)]] = dStrs (L.take (e + 1)) := by
  rw [List.take_add_one, h]
  simp [dStrs, ba_tx]
theorem dStrs_snoc' {L : List (List UInt8)} {e : Nat} {x : List UInt8} (h : L[e]? = some x) : dStrs (L.take e) ++ [[DV.v (.string (ba x))]] = dStrs (L.take (e + 1)) := by
  rw [List.take_add_one, h]
  simp [dStrs]

theorem labelT_join (l : List Wd) (h : l ≠ []) : labelT l = [32, 64] ++ joinT [] [43] (l.map wdT) := by
  cases l with
  | nil => exact (h rfl).elim
  | cons x r => simp [labelT, joinT]

abbrev labPSt (l : List Wd) (n e : Nat) : St :=
  ⟨[(6, ⟨[], .sl 2 (dWds l) none⟩), (7, ⟨[], .v (.int .i64 (dWds l).length)⟩), (8, ⟨[], .v (.int .i64 e)⟩), (3, ⟨[], .sl 1 (dStrs ((l.map wdT).take e)) (some 0)⟩)], [], [⟨n, 9, 1⟩]⟩

theorem label_spec (l : List Wd) (hs : wdsWt l ≤ 1099511627776) : EvP Tryz.prog 193 [.sl 2 (dWds l) none] (.v (.string (ba (labelT l)))) := by
  have hl := wdsWt_len l
  have hj := joinT_len (f := []) (s := [43]) (by simp) (by simp) (l.map wdT)
  have hj2 := jl_wds l
  refine ev_go (P := Tryz.prog) tt tt_ok 5000 24 [.tmp 2] Tryz.func193 rfl Tryz.ntmps193 rfl (Nat.le_of_ble_eq_true rfl) (fun E9 w9 hn9 hm9 => ?_)
  refine loop_i (fun j st => ∃ e : Nat, st = labPSt l e e ∧ e ≤ l.length ∧ j = l.length - e) l.length (labPSt l 0 0) (weak_tok ⟨0, 9, 1⟩ rfl ⟨_, rfl⟩ rfl (by repeat' (first | exact rfl | exact we_rfl rfl | refine ⟨_, _, rfl, ?_, ?_⟩)) rfl rfl (by repeat' (first | exact trivial | exact we_rfl rfl | exact we_rfl rfl | exact we_tok (Nat.le_refl _) rfl | refine ⟨⟨_, rfl, ?_⟩, ?_⟩))) ⟨0, rfl, by omega, rfl⟩ ?_
  rintro j st ⟨e, rfl, he, rfl⟩
  refine br (fun h => ?_) (fun h => ?_)
  · have hlt : e < l.length := by simpa [dWds_len] using h
    obtain ⟨w, hw⟩ : ∃ w, l[e]? = some w := ⟨_, List.getElem?_eq_getElem hlt⟩
    have hw2 : (l.map wdT)[e]? = some (tx w.s) := by simp [hw, wdT]
    refine ⟨dWd w, ⟨by omega, dWds_get hw⟩, ?_⟩
    refine ⟨by simp [dStrs_len]; omega, ⟨by simp [dStrs_len, maxLen]; omega, by simp [dStrs_len]; omega⟩, ?_⟩
    refine ⟨labPSt l (e + 1) (e + 1), (weak_mk ⟨_, rfl⟩ (by repeat' (first | exact rfl | exact we_rfl rfl | refine ⟨_, _, rfl, ?_, ?_⟩)) rfl rfl rfl (by repeat' (first | exact trivial | exact we_rfl rfl | exact we_int (nxt hlt (by omega)) | exact we_sl (dStrs_snoc hw2) rfl | refine ⟨⟨_, rfl, ?_⟩, ?_⟩))), l.length - (e + 1), by omega, e + 1, rfl, by omega, rfl⟩
  · have hge : e = l.length := by
      have := h; simp [dWds_len] at this; omega
    have htk : (l.map wdT).take e = l.map wdT := List.take_of_length_le (by simp; omega)
    refine br (fun h0 => ?_) (fun h0 => ?_)
    · have h0 : l = [] := by
        have := h0
        rw [htk] at this
        simp [dStrs_len] at this
        exact this
      refine (congrArg (fun s => DV.v (.string s)) (ba_ext ?_) : _ = _)
      subst h0
      simp [labelT, joinT, tx_mk]
    · have h0 : l ≠ [] := by
        rintro rfl
        simp [dStrs] at h0
      rw [htk]
      refine call_p (enters_of Tryz.func133 (by decide +kernel) rfl) (join_spec (l.map wdT) (ba [43]) (by simp; omega) (by rw [tx_ba]; omega)) (by repeat' (first | exact rfl | exact trivial | exact Or.inr (Or.inl ⟨_, rfl⟩) | exact Or.inr ⟨_, rfl⟩ | exact Or.inl ⟨rfl, rfl⟩ | exact Or.inl rfl | refine Or.inr ⟨_, _, rfl, Nat.zero_le _, rfl, ?_⟩ | refine ⟨_, _, rfl, ?_, ?_⟩ | refine ⟨_, rfl, ?_⟩ | refine Or.inr (Or.inr (Or.inr ⟨_, _, rfl, ?_⟩)) | exact Or.inl rfl | refine Or.inr ?_)) rfl ?_
      refine ⟨by rw [tx_ba]; (simp only [sz_app, sz_ba, List.length_cons, List.length_nil]; omega), ?_⟩
      refine (congrArg (fun s => DV.v (.string s)) (ba_ext ?_) : _ = _)
      rw [labelT_join l h0]
      simp [tx_app, tx_mk]

theorem name_spec (w : Wd) : EvP Tryz.prog 79 [.agg (dWd w)] (.v (.string (ba (wdT w)))) := by
  refine ev_go (P := Tryz.prog) tt tt_ok 5000 5 [.tmp 2] Tryz.func79 rfl Tryz.ntmps79 rfl (Nat.le_of_ble_eq_true rfl) (fun E9 w9 hn9 hm9 => ?_)
  refine (congrArg (fun s => DV.v (.string s)) ?_ : _ = _)
  exact (ba_tx w.s).symm

theorem marks_spec (p : Ph) (t : Ty) (hp : p.wt ≤ 1099511627776) (hw : I64 p.wide) (hc : I64 p.cn) (h0 : 0 ≤ p.wide) :
    EvP Tryz.prog 169 [.agg (dPh p (dTy t))] (.v (.string (ba (marksT p)))) := by
  obtain ⟨⟨ns, na⟩, bare, label, wide, ck, cn, ca, cl⟩ := p
  simp only [Ph.wt, Wd.wt] at hp
  simp only at hw hc h0
  have l1 := labelT_len label
  have l2 := labelT_len cl
  have l3 := putD_size hw.1 hw.2
  have l4 := putD_size hc.1 hc.2
  obtain ⟨th, tps⟩ := t
  have hck : ck = 1 ∨ ck = 2 ∨ ck = 3 ∨ (ck ≠ 1 ∧ ck ≠ 2 ∧ ck ≠ 3) := by omega
  rcases hck with rfl | rfl | rfl | ⟨k1, k2, k3⟩
  · refine ev_go (P := Tryz.prog) tt tt_ok 5000 48 [.tmp 2] Tryz.func169 rfl Tryz.ntmps169 rfl (Nat.le_of_ble_eq_true rfl) (fun E9 w9 hn9 hm9 => ?_)
    refine call_p (enters_of Tryz.func193 (by decide +kernel) rfl) (label_spec label (by omega)) (by repeat' (first | exact rfl | exact trivial | exact Or.inr (Or.inl ⟨_, rfl⟩) | exact Or.inr ⟨_, rfl⟩ | exact Or.inl ⟨rfl, rfl⟩ | exact Or.inl rfl | refine Or.inr ⟨_, _, rfl, Nat.zero_le _, rfl, ?_⟩ | refine ⟨_, _, rfl, ?_, ?_⟩ | refine ⟨_, rfl, ?_⟩ | refine Or.inr (Or.inr (Or.inr ⟨_, _, rfl, ?_⟩)) | exact Or.inl rfl | refine Or.inr ?_)) rfl ?_
    refine br (fun hwd => ?_) (fun hwd => ?_)
    · have hwd : 0 < wide := by
        have := hwd
        simp at this
        omega
      refine call_p (enters_of Tryz.func126 (by decide +kernel) rfl) (put_spec wide hw.1 hw.2) (by repeat' (first | exact rfl | exact trivial | exact Or.inr (Or.inl ⟨_, rfl⟩) | exact Or.inr ⟨_, rfl⟩ | exact Or.inl ⟨rfl, rfl⟩ | exact Or.inl rfl | refine Or.inr ⟨_, _, rfl, Nat.zero_le _, rfl, ?_⟩ | refine ⟨_, _, rfl, ?_, ?_⟩ | refine ⟨_, rfl, ?_⟩ | refine Or.inr (Or.inr (Or.inr ⟨_, _, rfl, ?_⟩)) | exact Or.inl rfl | refine Or.inr ?_)) rfl ?_
      refine ⟨by (simp only [sz_app, sz_ba, List.length_cons, List.length_nil]; omega), ?_⟩
      refine ⟨by (simp only [sz_app, sz_ba, List.length_cons, List.length_nil]; omega), ?_⟩
      refine call_p (enters_of Tryz.func126 (by decide +kernel) rfl) (put_spec cn hc.1 hc.2) (by repeat' (first | exact rfl | exact trivial | exact Or.inr (Or.inl ⟨_, rfl⟩) | exact Or.inr ⟨_, rfl⟩ | exact Or.inl ⟨rfl, rfl⟩ | exact Or.inl rfl | refine Or.inr ⟨_, _, rfl, Nat.zero_le _, rfl, ?_⟩ | refine ⟨_, _, rfl, ?_, ?_⟩ | refine ⟨_, rfl, ?_⟩ | refine Or.inr (Or.inr (Or.inr ⟨_, _, rfl, ?_⟩)) | exact Or.inl rfl | refine Or.inr ?_)) rfl ?_
      refine ⟨by (simp only [sz_app, sz_ba, List.length_cons, List.length_nil]; omega), ?_⟩
      refine ⟨by (simp only [sz_app, sz_ba, List.length_cons, List.length_nil]; omega), ?_⟩
      refine ⟨by (simp only [sz_app, sz_ba, List.length_cons, List.length_nil]; omega), ?_⟩
      refine ⟨by (simp only [sz_app, sz_ba, List.length_cons, List.length_nil]; omega), ?_⟩
      refine call_p (enters_of Tryz.func193 (by decide +kernel) rfl) (label_spec cl (by omega)) (by repeat' (first | exact rfl | exact trivial | exact Or.inr (Or.inl ⟨_, rfl⟩) | exact Or.inr ⟨_, rfl⟩ | exact Or.inl ⟨rfl, rfl⟩ | exact Or.inl rfl | refine Or.inr ⟨_, _, rfl, Nat.zero_le _, rfl, ?_⟩ | refine ⟨_, _, rfl, ?_, ?_⟩ | refine ⟨_, rfl, ?_⟩ | refine Or.inr (Or.inr (Or.inr ⟨_, _, rfl, ?_⟩)) | exact Or.inl rfl | refine Or.inr ?_)) rfl ?_
      refine ⟨by (simp only [sz_app, sz_ba, List.length_cons, List.length_nil]; omega), ?_⟩
      refine (congrArg (fun s => DV.v (.string s)) (ba_ext ?_) : _ = _)
      simp [marksT, wideT, coarseT, tx_app, tx_mk, tx_putD, hwd]
    · have hwd : ¬ 0 < wide := by
        have := hwd
        simp at this
        omega
      refine call_p (enters_of Tryz.func126 (by decide +kernel) rfl) (put_spec cn hc.1 hc.2) (by repeat' (first | exact rfl | exact trivial | exact Or.inr (Or.inl ⟨_, rfl⟩) | exact Or.inr ⟨_, rfl⟩ | exact Or.inl ⟨rfl, rfl⟩ | exact Or.inl rfl | refine Or.inr ⟨_, _, rfl, Nat.zero_le _, rfl, ?_⟩ | refine ⟨_, _, rfl, ?_, ?_⟩ | refine ⟨_, rfl, ?_⟩ | refine Or.inr (Or.inr (Or.inr ⟨_, _, rfl, ?_⟩)) | exact Or.inl rfl | refine Or.inr ?_)) rfl ?_
      refine ⟨by (simp only [sz_app, sz_ba, List.length_cons, List.length_nil]; omega), ?_⟩
      refine ⟨by (simp only [sz_app, sz_ba, List.length_cons, List.length_nil]; omega), ?_⟩
      refine ⟨by (simp only [sz_app, sz_ba, List.length_cons, List.length_nil]; omega), ?_⟩
      refine ⟨by (simp only [sz_app, sz_ba, List.length_cons, List.length_nil]; omega), ?_⟩
      refine call_p (enters_of Tryz.func193 (by decide +kernel) rfl) (label_spec cl (by omega)) (by repeat' (first | exact rfl | exact trivial | exact Or.inr (Or.inl ⟨_, rfl⟩) | exact Or.inr ⟨_, rfl⟩ | exact Or.inl ⟨rfl, rfl⟩ | exact Or.inl rfl | refine Or.inr ⟨_, _, rfl, Nat.zero_le _, rfl, ?_⟩ | refine ⟨_, _, rfl, ?_, ?_⟩ | refine ⟨_, rfl, ?_⟩ | refine Or.inr (Or.inr (Or.inr ⟨_, _, rfl, ?_⟩)) | exact Or.inl rfl | refine Or.inr ?_)) rfl ?_
      refine ⟨by (simp only [sz_app, sz_ba, List.length_cons, List.length_nil]; omega), ?_⟩
      refine (congrArg (fun s => DV.v (.string s)) (ba_ext ?_) : _ = _)
      simp [marksT, wideT, coarseT, tx_app, tx_mk, tx_putD, hwd]
  · refine ev_go (P := Tryz.prog) tt tt_ok 5000 48 [.tmp 2] Tryz.func169 rfl Tryz.ntmps169 rfl (Nat.le_of_ble_eq_true rfl) (fun E9 w9 hn9 hm9 => ?_)
    refine call_p (enters_of Tryz.func193 (by decide +kernel) rfl) (label_spec label (by omega)) (by repeat' (first | exact rfl | exact trivial | exact Or.inr (Or.inl ⟨_, rfl⟩) | exact Or.inr ⟨_, rfl⟩ | exact Or.inl ⟨rfl, rfl⟩ | exact Or.inl rfl | refine Or.inr ⟨_, _, rfl, Nat.zero_le _, rfl, ?_⟩ | refine ⟨_, _, rfl, ?_, ?_⟩ | refine ⟨_, rfl, ?_⟩ | refine Or.inr (Or.inr (Or.inr ⟨_, _, rfl, ?_⟩)) | exact Or.inl rfl | refine Or.inr ?_)) rfl ?_
    refine br (fun hwd => ?_) (fun hwd => ?_)
    · have hwd : 0 < wide := by
        have := hwd
        simp at this
        omega
      refine call_p (enters_of Tryz.func126 (by decide +kernel) rfl) (put_spec wide hw.1 hw.2) (by repeat' (first | exact rfl | exact trivial | exact Or.inr (Or.inl ⟨_, rfl⟩) | exact Or.inr ⟨_, rfl⟩ | exact Or.inl ⟨rfl, rfl⟩ | exact Or.inl rfl | refine Or.inr ⟨_, _, rfl, Nat.zero_le _, rfl, ?_⟩ | refine ⟨_, _, rfl, ?_, ?_⟩ | refine ⟨_, rfl, ?_⟩ | refine Or.inr (Or.inr (Or.inr ⟨_, _, rfl, ?_⟩)) | exact Or.inl rfl | refine Or.inr ?_)) rfl ?_
      refine ⟨by (simp only [sz_app, sz_ba, List.length_cons, List.length_nil]; omega), ?_⟩
      refine ⟨by (simp only [sz_app, sz_ba, List.length_cons, List.length_nil]; omega), ?_⟩
      refine call_p (enters_of Tryz.func126 (by decide +kernel) rfl) (put_spec cn hc.1 hc.2) (by repeat' (first | exact rfl | exact trivial | exact Or.inr (Or.inl ⟨_, rfl⟩) | exact Or.inr ⟨_, rfl⟩ | exact Or.inl ⟨rfl, rfl⟩ | exact Or.inl rfl | refine Or.inr ⟨_, _, rfl, Nat.zero_le _, rfl, ?_⟩ | refine ⟨_, _, rfl, ?_, ?_⟩ | refine ⟨_, rfl, ?_⟩ | refine Or.inr (Or.inr (Or.inr ⟨_, _, rfl, ?_⟩)) | exact Or.inl rfl | refine Or.inr ?_)) rfl ?_
      refine ⟨by (simp only [sz_app, sz_ba, List.length_cons, List.length_nil]; omega), ?_⟩
      refine ⟨by (simp only [sz_app, sz_ba, List.length_cons, List.length_nil]; omega), ?_⟩
      refine ⟨by (simp only [sz_app, sz_ba, List.length_cons, List.length_nil]; omega), ?_⟩
      refine ⟨by (simp only [sz_app, sz_ba, List.length_cons, List.length_nil]; omega), ?_⟩
      refine call_p (enters_of Tryz.func193 (by decide +kernel) rfl) (label_spec cl (by omega)) (by repeat' (first | exact rfl | exact trivial | exact Or.inr (Or.inl ⟨_, rfl⟩) | exact Or.inr ⟨_, rfl⟩ | exact Or.inl ⟨rfl, rfl⟩ | exact Or.inl rfl | refine Or.inr ⟨_, _, rfl, Nat.zero_le _, rfl, ?_⟩ | refine ⟨_, _, rfl, ?_, ?_⟩ | refine ⟨_, rfl, ?_⟩ | refine Or.inr (Or.inr (Or.inr ⟨_, _, rfl, ?_⟩)) | exact Or.inl rfl | refine Or.inr ?_)) rfl ?_
      refine ⟨by (simp only [sz_app, sz_ba, List.length_cons, List.length_nil]; omega), ?_⟩
      refine (congrArg (fun s => DV.v (.string s)) (ba_ext ?_) : _ = _)
      simp [marksT, wideT, coarseT, tx_app, tx_mk, tx_putD, hwd]
    · have hwd : ¬ 0 < wide := by
        have := hwd
        simp at this
        omega
      refine call_p (enters_of Tryz.func126 (by decide +kernel) rfl) (put_spec cn hc.1 hc.2) (by repeat' (first | exact rfl | exact trivial | exact Or.inr (Or.inl ⟨_, rfl⟩) | exact Or.inr ⟨_, rfl⟩ | exact Or.inl ⟨rfl, rfl⟩ | exact Or.inl rfl | refine Or.inr ⟨_, _, rfl, Nat.zero_le _, rfl, ?_⟩ | refine ⟨_, _, rfl, ?_, ?_⟩ | refine ⟨_, rfl, ?_⟩ | refine Or.inr (Or.inr (Or.inr ⟨_, _, rfl, ?_⟩)) | exact Or.inl rfl | refine Or.inr ?_)) rfl ?_
      refine ⟨by (simp only [sz_app, sz_ba, List.length_cons, List.length_nil]; omega), ?_⟩
      refine ⟨by (simp only [sz_app, sz_ba, List.length_cons, List.length_nil]; omega), ?_⟩
      refine ⟨by (simp only [sz_app, sz_ba, List.length_cons, List.length_nil]; omega), ?_⟩
      refine ⟨by (simp only [sz_app, sz_ba, List.length_cons, List.length_nil]; omega), ?_⟩
      refine call_p (enters_of Tryz.func193 (by decide +kernel) rfl) (label_spec cl (by omega)) (by repeat' (first | exact rfl | exact trivial | exact Or.inr (Or.inl ⟨_, rfl⟩) | exact Or.inr ⟨_, rfl⟩ | exact Or.inl ⟨rfl, rfl⟩ | exact Or.inl rfl | refine Or.inr ⟨_, _, rfl, Nat.zero_le _, rfl, ?_⟩ | refine ⟨_, _, rfl, ?_, ?_⟩ | refine ⟨_, rfl, ?_⟩ | refine Or.inr (Or.inr (Or.inr ⟨_, _, rfl, ?_⟩)) | exact Or.inl rfl | refine Or.inr ?_)) rfl ?_
      refine ⟨by (simp only [sz_app, sz_ba, List.length_cons, List.length_nil]; omega), ?_⟩
      refine (congrArg (fun s => DV.v (.string s)) (ba_ext ?_) : _ = _)
      simp [marksT, wideT, coarseT, tx_app, tx_mk, tx_putD, hwd]
  · refine ev_go (P := Tryz.prog) tt tt_ok 5000 48 [.tmp 2] Tryz.func169 rfl Tryz.ntmps169 rfl (Nat.le_of_ble_eq_true rfl) (fun E9 w9 hn9 hm9 => ?_)
    refine call_p (enters_of Tryz.func193 (by decide +kernel) rfl) (label_spec label (by omega)) (by repeat' (first | exact rfl | exact trivial | exact Or.inr (Or.inl ⟨_, rfl⟩) | exact Or.inr ⟨_, rfl⟩ | exact Or.inl ⟨rfl, rfl⟩ | exact Or.inl rfl | refine Or.inr ⟨_, _, rfl, Nat.zero_le _, rfl, ?_⟩ | refine ⟨_, _, rfl, ?_, ?_⟩ | refine ⟨_, rfl, ?_⟩ | refine Or.inr (Or.inr (Or.inr ⟨_, _, rfl, ?_⟩)) | exact Or.inl rfl | refine Or.inr ?_)) rfl ?_
    refine br (fun hwd => ?_) (fun hwd => ?_)
    · have hwd : 0 < wide := by
        have := hwd
        simp at this
        omega
      refine call_p (enters_of Tryz.func126 (by decide +kernel) rfl) (put_spec wide hw.1 hw.2) (by repeat' (first | exact rfl | exact trivial | exact Or.inr (Or.inl ⟨_, rfl⟩) | exact Or.inr ⟨_, rfl⟩ | exact Or.inl ⟨rfl, rfl⟩ | exact Or.inl rfl | refine Or.inr ⟨_, _, rfl, Nat.zero_le _, rfl, ?_⟩ | refine ⟨_, _, rfl, ?_, ?_⟩ | refine ⟨_, rfl, ?_⟩ | refine Or.inr (Or.inr (Or.inr ⟨_, _, rfl, ?_⟩)) | exact Or.inl rfl | refine Or.inr ?_)) rfl ?_
      refine ⟨by (simp only [sz_app, sz_ba, List.length_cons, List.length_nil]; omega), ?_⟩
      refine ⟨by (simp only [sz_app, sz_ba, List.length_cons, List.length_nil]; omega), ?_⟩
      refine call_p (enters_of Tryz.func126 (by decide +kernel) rfl) (put_spec cn hc.1 hc.2) (by repeat' (first | exact rfl | exact trivial | exact Or.inr (Or.inl ⟨_, rfl⟩) | exact Or.inr ⟨_, rfl⟩ | exact Or.inl ⟨rfl, rfl⟩ | exact Or.inl rfl | refine Or.inr ⟨_, _, rfl, Nat.zero_le _, rfl, ?_⟩ | refine ⟨_, _, rfl, ?_, ?_⟩ | refine ⟨_, rfl, ?_⟩ | refine Or.inr (Or.inr (Or.inr ⟨_, _, rfl, ?_⟩)) | exact Or.inl rfl | refine Or.inr ?_)) rfl ?_
      refine ⟨by (simp only [sz_app, sz_ba, List.length_cons, List.length_nil]; omega), ?_⟩
      refine ⟨by (simp only [sz_app, sz_ba, List.length_cons, List.length_nil]; omega), ?_⟩
      refine ⟨by (simp only [sz_app, sz_ba, List.length_cons, List.length_nil]; omega), ?_⟩
      refine call_p (enters_of Tryz.func193 (by decide +kernel) rfl) (label_spec cl (by omega)) (by repeat' (first | exact rfl | exact trivial | exact Or.inr (Or.inl ⟨_, rfl⟩) | exact Or.inr ⟨_, rfl⟩ | exact Or.inl ⟨rfl, rfl⟩ | exact Or.inl rfl | refine Or.inr ⟨_, _, rfl, Nat.zero_le _, rfl, ?_⟩ | refine ⟨_, _, rfl, ?_, ?_⟩ | refine ⟨_, rfl, ?_⟩ | refine Or.inr (Or.inr (Or.inr ⟨_, _, rfl, ?_⟩)) | exact Or.inl rfl | refine Or.inr ?_)) rfl ?_
      refine ⟨by (simp only [sz_app, sz_ba, List.length_cons, List.length_nil]; omega), ?_⟩
      refine (congrArg (fun s => DV.v (.string s)) (ba_ext ?_) : _ = _)
      simp [marksT, wideT, coarseT, tx_app, tx_mk, tx_putD, hwd]
    · have hwd : ¬ 0 < wide := by
        have := hwd
        simp at this
        omega
      refine call_p (enters_of Tryz.func126 (by decide +kernel) rfl) (put_spec cn hc.1 hc.2) (by repeat' (first | exact rfl | exact trivial | exact Or.inr (Or.inl ⟨_, rfl⟩) | exact Or.inr ⟨_, rfl⟩ | exact Or.inl ⟨rfl, rfl⟩ | exact Or.inl rfl | refine Or.inr ⟨_, _, rfl, Nat.zero_le _, rfl, ?_⟩ | refine ⟨_, _, rfl, ?_, ?_⟩ | refine ⟨_, rfl, ?_⟩ | refine Or.inr (Or.inr (Or.inr ⟨_, _, rfl, ?_⟩)) | exact Or.inl rfl | refine Or.inr ?_)) rfl ?_
      refine ⟨by (simp only [sz_app, sz_ba, List.length_cons, List.length_nil]; omega), ?_⟩
      refine ⟨by (simp only [sz_app, sz_ba, List.length_cons, List.length_nil]; omega), ?_⟩
      refine ⟨by (simp only [sz_app, sz_ba, List.length_cons, List.length_nil]; omega), ?_⟩
      refine call_p (enters_of Tryz.func193 (by decide +kernel) rfl) (label_spec cl (by omega)) (by repeat' (first | exact rfl | exact trivial | exact Or.inr (Or.inl ⟨_, rfl⟩) | exact Or.inr ⟨_, rfl⟩ | exact Or.inl ⟨rfl, rfl⟩ | exact Or.inl rfl | refine Or.inr ⟨_, _, rfl, Nat.zero_le _, rfl, ?_⟩ | refine ⟨_, _, rfl, ?_, ?_⟩ | refine ⟨_, rfl, ?_⟩ | refine Or.inr (Or.inr (Or.inr ⟨_, _, rfl, ?_⟩)) | exact Or.inl rfl | refine Or.inr ?_)) rfl ?_
      refine ⟨by (simp only [sz_app, sz_ba, List.length_cons, List.length_nil]; omega), ?_⟩
      refine (congrArg (fun s => DV.v (.string s)) (ba_ext ?_) : _ = _)
      simp [marksT, wideT, coarseT, tx_app, tx_mk, tx_putD, hwd]
  · refine ev_go (P := Tryz.prog) tt tt_ok 5000 48 [.tmp 2] Tryz.func169 rfl Tryz.ntmps169 rfl (Nat.le_of_ble_eq_true rfl) (fun E9 w9 hn9 hm9 => ?_)
    refine call_p (enters_of Tryz.func193 (by decide +kernel) rfl) (label_spec label (by omega)) (by repeat' (first | exact rfl | exact trivial | exact Or.inr (Or.inl ⟨_, rfl⟩) | exact Or.inr ⟨_, rfl⟩ | exact Or.inl ⟨rfl, rfl⟩ | exact Or.inl rfl | refine Or.inr ⟨_, _, rfl, Nat.zero_le _, rfl, ?_⟩ | refine ⟨_, _, rfl, ?_, ?_⟩ | refine ⟨_, rfl, ?_⟩ | refine Or.inr (Or.inr (Or.inr ⟨_, _, rfl, ?_⟩)) | exact Or.inl rfl | refine Or.inr ?_)) rfl ?_
    refine br (fun hwd => ?_) (fun hwd => ?_)
    · have hwd : 0 < wide := by
        have := hwd
        simp at this
        omega
      refine call_p (enters_of Tryz.func126 (by decide +kernel) rfl) (put_spec wide hw.1 hw.2) (by repeat' (first | exact rfl | exact trivial | exact Or.inr (Or.inl ⟨_, rfl⟩) | exact Or.inr ⟨_, rfl⟩ | exact Or.inl ⟨rfl, rfl⟩ | exact Or.inl rfl | refine Or.inr ⟨_, _, rfl, Nat.zero_le _, rfl, ?_⟩ | refine ⟨_, _, rfl, ?_, ?_⟩ | refine ⟨_, rfl, ?_⟩ | refine Or.inr (Or.inr (Or.inr ⟨_, _, rfl, ?_⟩)) | exact Or.inl rfl | refine Or.inr ?_)) rfl ?_
      refine ⟨by (simp only [sz_app, sz_ba, List.length_cons, List.length_nil]; omega), ?_⟩
      refine ⟨by (simp only [sz_app, sz_ba, List.length_cons, List.length_nil]; omega), ?_⟩
      refine call_p (enters_of Tryz.func126 (by decide +kernel) rfl) (put_spec cn hc.1 hc.2) (by repeat' (first | exact rfl | exact trivial | exact Or.inr (Or.inl ⟨_, rfl⟩) | exact Or.inr ⟨_, rfl⟩ | exact Or.inl ⟨rfl, rfl⟩ | exact Or.inl rfl | refine Or.inr ⟨_, _, rfl, Nat.zero_le _, rfl, ?_⟩ | refine ⟨_, _, rfl, ?_, ?_⟩ | refine ⟨_, rfl, ?_⟩ | refine Or.inr (Or.inr (Or.inr ⟨_, _, rfl, ?_⟩)) | exact Or.inl rfl | refine Or.inr ?_)) rfl ?_
      refine ⟨by (simp only [sz_app, sz_ba, List.length_cons, List.length_nil]; omega), ?_⟩
      refine ⟨by (simp only [sz_app, sz_ba, List.length_cons, List.length_nil]; omega), ?_⟩
      refine br (fun h => absurd (of_decide_eq_true h) k1) (fun _ => ?_)
      refine br (fun h => absurd (of_decide_eq_true h) k2) (fun _ => ?_)
      refine br (fun h => absurd (of_decide_eq_true h) k3) (fun _ => ?_)
      refine call_p (enters_of Tryz.func193 (by decide +kernel) rfl) (label_spec cl (by omega)) (by repeat' (first | exact rfl | exact trivial | exact Or.inr (Or.inl ⟨_, rfl⟩) | exact Or.inr ⟨_, rfl⟩ | exact Or.inl ⟨rfl, rfl⟩ | exact Or.inl rfl | refine Or.inr ⟨_, _, rfl, Nat.zero_le _, rfl, ?_⟩ | refine ⟨_, _, rfl, ?_, ?_⟩ | refine ⟨_, rfl, ?_⟩ | refine Or.inr (Or.inr (Or.inr ⟨_, _, rfl, ?_⟩)) | exact Or.inl rfl | refine Or.inr ?_)) rfl ?_
      refine ⟨by (simp only [sz_app, sz_ba, List.length_cons, List.length_nil]; omega), ?_⟩
      refine (congrArg (fun s => DV.v (.string s)) (ba_ext ?_) : _ = _)
      simp [marksT, wideT, coarseT, tx_app, tx_mk, tx_putD, hwd, k1, k2, k3]
    · have hwd : ¬ 0 < wide := by
        have := hwd
        simp at this
        omega
      refine call_p (enters_of Tryz.func126 (by decide +kernel) rfl) (put_spec cn hc.1 hc.2) (by repeat' (first | exact rfl | exact trivial | exact Or.inr (Or.inl ⟨_, rfl⟩) | exact Or.inr ⟨_, rfl⟩ | exact Or.inl ⟨rfl, rfl⟩ | exact Or.inl rfl | refine Or.inr ⟨_, _, rfl, Nat.zero_le _, rfl, ?_⟩ | refine ⟨_, _, rfl, ?_, ?_⟩ | refine ⟨_, rfl, ?_⟩ | refine Or.inr (Or.inr (Or.inr ⟨_, _, rfl, ?_⟩)) | exact Or.inl rfl | refine Or.inr ?_)) rfl ?_
      refine ⟨by (simp only [sz_app, sz_ba, List.length_cons, List.length_nil]; omega), ?_⟩
      refine ⟨by (simp only [sz_app, sz_ba, List.length_cons, List.length_nil]; omega), ?_⟩
      refine br (fun h => absurd (of_decide_eq_true h) k1) (fun _ => ?_)
      refine br (fun h => absurd (of_decide_eq_true h) k2) (fun _ => ?_)
      refine br (fun h => absurd (of_decide_eq_true h) k3) (fun _ => ?_)
      refine call_p (enters_of Tryz.func193 (by decide +kernel) rfl) (label_spec cl (by omega)) (by repeat' (first | exact rfl | exact trivial | exact Or.inr (Or.inl ⟨_, rfl⟩) | exact Or.inr ⟨_, rfl⟩ | exact Or.inl ⟨rfl, rfl⟩ | exact Or.inl rfl | refine Or.inr ⟨_, _, rfl, Nat.zero_le _, rfl, ?_⟩ | refine ⟨_, _, rfl, ?_, ?_⟩ | refine ⟨_, rfl, ?_⟩ | refine Or.inr (Or.inr (Or.inr ⟨_, _, rfl, ?_⟩)) | exact Or.inl rfl | refine Or.inr ?_)) rfl ?_
      refine ⟨by (simp only [sz_app, sz_ba, List.length_cons, List.length_nil]; omega), ?_⟩
      refine (congrArg (fun s => DV.v (.string s)) (ba_ext ?_) : _ = _)
      simp [marksT, wideT, coarseT, tx_app, tx_mk, tx_putD, hwd, k1, k2, k3]

abbrev listSt (d : Nat) (es : List (List DV)) (g : Nat) (L : List (List UInt8)) (n e : Nat) : St :=
  ⟨[(8, ⟨[], .sl d es none⟩), (9, ⟨[], .v (.int .i64 es.length)⟩), (10, ⟨[], .v (.int .i64 e)⟩), (1, ⟨[], .fn g [] []⟩), (5, ⟨[], .sl 1 (dStrs (L.take e)) (some 0)⟩)], [], [⟨n, 9, 1⟩]⟩

theorem listW_spec (l : List Wd) (hs : wdsWt l ≤ 1099511627776) : EvP Tryz.prog 78 [.sl 2 (dWds l) none, .fn 79 [] []] (.v (.string (ba (joinT [] [44, 32] (l.map wdT))))) := by
  have hl := wdsWt_len l
  have hj := joinT_len (f := []) (s := [44, 32]) (by simp) (by simp) (l.map wdT)
  have hj2 := jl_wds l
  refine ev_go (P := Tryz.prog) tt tt_ok 5000 23 [.tmp 4] Tryz.func78 rfl Tryz.ntmps78 rfl (Nat.le_of_ble_eq_true rfl) (fun E9 w9 hn9 hm9 => ?_)
  refine loop_i (fun j st => ∃ e : Nat, st = listSt 2 (dWds l) 79 (l.map wdT) e e ∧ e ≤ l.length ∧ j = l.length - e) l.length (listSt 2 (dWds l) 79 (l.map wdT) 0 0) (weak_tok ⟨0, 9, 1⟩ rfl ⟨_, rfl⟩ rfl (by repeat' (first | exact rfl | exact we_rfl rfl | refine ⟨_, _, rfl, ?_, ?_⟩)) rfl rfl (by repeat' (first | exact trivial | exact we_rfl rfl | exact we_rfl rfl | exact we_tok (Nat.le_refl _) rfl | refine ⟨⟨_, rfl, ?_⟩, ?_⟩))) ⟨0, rfl, by omega, rfl⟩ ?_
  rintro j st ⟨e, rfl, he, rfl⟩
  refine br (fun h => ?_) (fun h => ?_)
  · have hlt : e < l.length := by simpa [dWds_len] using h
    obtain ⟨w, hw⟩ : ∃ w, l[e]? = some w := ⟨_, List.getElem?_eq_getElem hlt⟩
    have hw2 : (l.map wdT)[e]? = some (wdT w) := by simp [hw]
    refine ⟨dWd w, ⟨by omega, dWds_get hw⟩, ?_⟩
    refine call_p (enters_of Tryz.func79 (by decide +kernel) rfl) (name_spec w) (by repeat' (first | exact rfl | exact trivial | exact Or.inr (Or.inl ⟨_, rfl⟩) | exact Or.inr ⟨_, rfl⟩ | exact Or.inl ⟨rfl, rfl⟩ | exact Or.inl rfl | refine Or.inr ⟨_, _, rfl, Nat.zero_le _, rfl, ?_⟩ | refine ⟨_, _, rfl, ?_, ?_⟩ | refine ⟨_, rfl, ?_⟩ | refine Or.inr (Or.inr (Or.inr ⟨_, _, rfl, ?_⟩)) | exact Or.inl rfl | refine Or.inr ?_)) rfl ?_
    refine ⟨by simp [dStrs_len]; omega, ⟨by simp [dStrs_len, maxLen]; omega, by simp [dStrs_len]; omega⟩, ?_⟩
    refine ⟨listSt 2 (dWds l) 79 (l.map wdT) (e + 1) (e + 1), (weak_mk ⟨_, rfl⟩ (by repeat' (first | exact rfl | exact we_rfl rfl | refine ⟨_, _, rfl, ?_, ?_⟩)) rfl rfl rfl (by repeat' (first | exact trivial | exact we_rfl rfl | exact we_int (nxt hlt (by omega)) | exact we_sl (dStrs_snoc' hw2) rfl | refine ⟨⟨_, rfl, ?_⟩, ?_⟩))), l.length - (e + 1), by omega, e + 1, rfl, by omega, rfl⟩
  · have hge : e = l.length := by
      have := h; simp [dWds_len] at this; omega
    have htk : (l.map wdT).take e = l.map wdT := List.take_of_length_le (by simp; omega)
    rw [htk]
    refine call_p (enters_of Tryz.func133 (by decide +kernel) rfl) (join_spec (l.map wdT) (ba [44, 32]) (by simp; omega) (by rw [tx_ba]; omega)) (by repeat' (first | exact rfl | exact trivial | exact Or.inr (Or.inl ⟨_, rfl⟩) | exact Or.inr ⟨_, rfl⟩ | exact Or.inl ⟨rfl, rfl⟩ | exact Or.inl rfl | refine Or.inr ⟨_, _, rfl, Nat.zero_le _, rfl, ?_⟩ | refine ⟨_, _, rfl, ?_, ?_⟩ | refine ⟨_, rfl, ?_⟩ | refine Or.inr (Or.inr (Or.inr ⟨_, _, rfl, ?_⟩)) | exact Or.inl rfl | refine Or.inr ?_)) rfl ?_
    rw [tx_ba]
    exact (rfl : _ = _)

theorem listP_spec (g : Nat) (hen : Enters Tryz.prog g) (ps : Pts) (L : List (List UInt8)) (hs : ps.wt ≤ 1099511627776) (hL : L.length = ps.len) (hjl : jl L ≤ 1099511627776)
    (hF : ∀ (e : Nat) p t, ps.toList[e]? = some (p, t) → ∃ x, L[e]? = some x ∧ EvP Tryz.prog g [.agg (dPh p (dTy t))] (.v (.string (ba x)))) :
    EvP Tryz.prog 127 [.sl 18 (dPts ps) none, .fn g [] []] (.v (.string (ba (joinT [] [44, 32] L)))) := by
  have hl := ps.wt_len
  have hj := joinT_len (f := []) (s := [44, 32]) (by simp) (by simp) L
  refine ev_go (P := Tryz.prog) tt tt_ok 5000 23 [.tmp 4] Tryz.func127 rfl Tryz.ntmps127 rfl (Nat.le_of_ble_eq_true rfl) (fun E9 w9 hn9 hm9 => ?_)
  refine loop_i (fun j st => ∃ e : Nat, st = listSt 18 (dPts ps) g L e e ∧ e ≤ ps.len ∧ j = ps.len - e) ps.len (listSt 18 (dPts ps) g L 0 0) (weak_tok ⟨0, 9, 1⟩ rfl ⟨_, rfl⟩ rfl (by repeat' (first | exact rfl | exact we_rfl rfl | refine ⟨_, _, rfl, ?_, ?_⟩)) rfl rfl (by repeat' (first | exact trivial | exact we_rfl rfl | exact we_rfl rfl | exact we_tok (Nat.le_refl _) rfl | refine ⟨⟨_, rfl, ?_⟩, ?_⟩))) ⟨0, rfl, by omega, rfl⟩ ?_
  rintro j st ⟨e, rfl, he, rfl⟩
  refine br (fun h => ?_) (fun h => ?_)
  · have hlt : e < ps.len := by simpa [dPts_len] using h
    obtain ⟨p, ⟨u, us⟩, hx⟩ := Pts.get_lt hlt
    obtain ⟨x, hx2, hev⟩ := hF e p _ hx
    refine ⟨dPh p (dTy (.mk u us)), ⟨by omega, dPts_get hx⟩, ?_⟩
    refine call_p hen hev (by repeat' (first | exact rfl | exact trivial | exact Or.inr (Or.inl ⟨_, rfl⟩) | exact Or.inr ⟨_, rfl⟩ | exact Or.inl ⟨rfl, rfl⟩ | exact Or.inl rfl | refine Or.inr ⟨_, _, rfl, Nat.zero_le _, rfl, ?_⟩ | refine ⟨_, _, rfl, ?_, ?_⟩ | refine ⟨_, rfl, ?_⟩ | refine Or.inr (Or.inr (Or.inr ⟨_, _, rfl, ?_⟩)) | exact Or.inl rfl | refine Or.inr ?_)) rfl ?_
    refine ⟨by simp [dStrs_len]; omega, ⟨by simp [dStrs_len, maxLen]; omega, by simp [dStrs_len]; omega⟩, ?_⟩
    refine ⟨listSt 18 (dPts ps) g L (e + 1) (e + 1), (weak_mk ⟨_, rfl⟩ (by repeat' (first | exact rfl | exact we_rfl rfl | refine ⟨_, _, rfl, ?_, ?_⟩)) rfl rfl rfl (by repeat' (first | exact trivial | exact we_rfl rfl | exact we_int (nxt hlt (by omega)) | exact we_sl (dStrs_snoc' hx2) rfl | refine ⟨⟨_, rfl, ?_⟩, ?_⟩))), ps.len - (e + 1), by omega, e + 1, rfl, by omega, rfl⟩
  · have hge : e = ps.len := by
      have := h; simp [dPts_len] at this; omega
    have htk : L.take e = L := List.take_of_length_le (by omega)
    rw [htk]
    refine call_p (enters_of Tryz.func133 (by decide +kernel) rfl) (join_spec L (ba [44, 32]) (by omega) (by rw [tx_ba]; omega)) (by repeat' (first | exact rfl | exact trivial | exact Or.inr (Or.inl ⟨_, rfl⟩) | exact Or.inr ⟨_, rfl⟩ | exact Or.inl ⟨rfl, rfl⟩ | exact Or.inl rfl | refine Or.inr ⟨_, _, rfl, Nat.zero_le _, rfl, ?_⟩ | refine ⟨_, _, rfl, ?_, ?_⟩ | refine ⟨_, rfl, ?_⟩ | refine Or.inr (Or.inr (Or.inr ⟨_, _, rfl, ?_⟩)) | exact Or.inl rfl | refine Or.inr ?_)) rfl ?_
    rw [tx_ba]
    exact (rfl : _ = _)
end Go.Proofs.YtmphiikdhifhjaaGreat
set_option maxRecDepth 100000
namespace Go.Proofs.YtmphiikdhifhjaaGreat
open Go Go.RowKit Dv Tryz

theorem ptsT_map (tag : Bool) : ∀ ps : Pts, ptsT tag ps = ps.toList.map fun x => partT tag x.1 (tyT x.2)
  | .nil => rfl
  | .cons p t r => by simp [ptsT, Pts.toList, ptsT_map tag r]

theorem field_spec (p : Ph) (t : Ty) (hb : p.bare = false) (hp : p.wt ≤ 1099511627776) (hw : I64 p.wide) (hc : I64 p.cn) (h0 : 0 ≤ p.wide) (hl : (tyT t).length ≤ 1099511627776)
    (ht : EvP Tryz.prog 72 [.agg (dTy t)] (.v (.string (ba (tyT t))))) :
    EvP Tryz.prog 128 [.agg (dPh p (dTy t))] (.v (.string (ba (partT false p (tyT t))))) := by
  have hm := marks_spec p t hp hw hc h0
  have l1 := marksT_len hw hc
  obtain ⟨⟨ns, na⟩, bare, label, wide, ck, cn, ca, cl⟩ := p
  simp only [Ph.wt, Wd.wt] at hp l1
  simp only at hb
  subst hb
  obtain ⟨th, tps⟩ := t
  refine ev_go (P := Tryz.prog) tt tt_ok 5000 14 [.tmp 2] Tryz.func128 rfl Tryz.ntmps128 rfl (Nat.le_of_ble_eq_true rfl) (fun E9 w9 hn9 hm9 => ?_)
  refine drawG_i (fun _ => false) mo (by decide +kernel) ?_
  refine ⟨by (simp only [sz_app, sz_ba, List.length_cons, List.length_nil]; omega), ?_⟩
  refine callD_p (enters_of Tryz.func72 (by decide +kernel) rfl) (ht) (by repeat' (first | exact rfl | exact trivial | exact Or.inr (Or.inl ⟨_, rfl⟩) | exact Or.inr ⟨_, rfl⟩ | exact Or.inl ⟨rfl, rfl⟩ | exact Or.inl rfl | refine Or.inr ⟨_, _, rfl, Nat.zero_le _, rfl, ?_⟩ | refine ⟨_, _, rfl, ?_, ?_⟩ | refine ⟨_, rfl, ?_⟩ | refine Or.inr (Or.inr (Or.inr ⟨_, _, rfl, ?_⟩)) | exact Or.inl rfl | refine Or.inr ?_)) rfl ?_
  refine ⟨by (simp only [sz_app, sz_ba, List.length_cons, List.length_nil]; omega), ?_⟩
  refine callD_p (enters_of Tryz.func169 (by decide +kernel) rfl) (hm) (by repeat' (first | exact rfl | exact trivial | exact Or.inr (Or.inl ⟨_, rfl⟩) | exact Or.inr ⟨_, rfl⟩ | exact Or.inl ⟨rfl, rfl⟩ | exact Or.inl rfl | refine Or.inr ⟨_, _, rfl, Nat.zero_le _, rfl, ?_⟩ | refine ⟨_, _, rfl, ?_, ?_⟩ | refine ⟨_, rfl, ?_⟩ | refine Or.inr (Or.inr (Or.inr ⟨_, _, rfl, ?_⟩)) | exact Or.inl rfl | refine Or.inr ?_)) rfl ?_
  refine ⟨by (simp only [sz_app, sz_ba, List.length_cons, List.length_nil]; omega), ?_⟩
  refine (congrArg (fun s => DV.v (.string s)) (ba_ext ?_) : _ = _)
  simp [partT, tx_app, tx_mk]

theorem tag_spec (p : Ph) (t : Ty) (hp : p.wt ≤ 1099511627776) (hw : I64 p.wide) (hc : I64 p.cn) (h0 : p.bare = false → 0 ≤ p.wide) (hl : p.bare = false → (tyT t).length ≤ 1099511627776)
    (ht : p.bare = false → EvP Tryz.prog 72 [.agg (dTy t)] (.v (.string (ba (tyT t))))) :
    EvP Tryz.prog 129 [.agg (dPh p (dTy t))] (.v (.string (ba (partT true p (tyT t))))) := by
  have hm := fun hb => marks_spec p t hp hw hc (h0 hb)
  have l1 := marksT_len hw hc
  obtain ⟨⟨ns, na⟩, bare, label, wide, ck, cn, ca, cl⟩ := p
  simp only [Ph.wt, Wd.wt] at hp l1
  simp only at h0 hl ht hm
  obtain ⟨th, tps⟩ := t
  cases bare
  · have hl := hl rfl
    have ht := ht rfl
    have hm := hm rfl
    refine ev_go (P := Tryz.prog) tt tt_ok 5000 20 [.tmp 2] Tryz.func129 rfl Tryz.ntmps129 rfl (Nat.le_of_ble_eq_true rfl) (fun E9 w9 hn9 hm9 => ?_)
    refine drawG_i (fun _ => false) mo (by decide +kernel) ?_
    refine ⟨by (simp only [sz_app, sz_ba, List.length_cons, List.length_nil]; omega), ?_⟩
    refine callD_p (enters_of Tryz.func72 (by decide +kernel) rfl) (ht) (by repeat' (first | exact rfl | exact trivial | exact Or.inr (Or.inl ⟨_, rfl⟩) | exact Or.inr ⟨_, rfl⟩ | exact Or.inl ⟨rfl, rfl⟩ | exact Or.inl rfl | refine Or.inr ⟨_, _, rfl, Nat.zero_le _, rfl, ?_⟩ | refine ⟨_, _, rfl, ?_, ?_⟩ | refine ⟨_, rfl, ?_⟩ | refine Or.inr (Or.inr (Or.inr ⟨_, _, rfl, ?_⟩)) | exact Or.inl rfl | refine Or.inr ?_)) rfl ?_
    refine ⟨by (simp only [sz_app, sz_ba, List.length_cons, List.length_nil]; omega), ?_⟩
    refine ⟨by (simp only [sz_app, sz_ba, List.length_cons, List.length_nil]; omega), ?_⟩
    refine callD_p (enters_of Tryz.func169 (by decide +kernel) rfl) (hm) (by repeat' (first | exact rfl | exact trivial | exact Or.inr (Or.inl ⟨_, rfl⟩) | exact Or.inr ⟨_, rfl⟩ | exact Or.inl ⟨rfl, rfl⟩ | exact Or.inl rfl | refine Or.inr ⟨_, _, rfl, Nat.zero_le _, rfl, ?_⟩ | refine ⟨_, _, rfl, ?_, ?_⟩ | refine ⟨_, rfl, ?_⟩ | refine Or.inr (Or.inr (Or.inr ⟨_, _, rfl, ?_⟩)) | exact Or.inl rfl | refine Or.inr ?_)) rfl ?_
    refine ⟨by (simp only [sz_app, sz_ba, List.length_cons, List.length_nil]; omega), ?_⟩
    refine (congrArg (fun s => DV.v (.string s)) (ba_ext ?_) : _ = _)
    simp [partT, tx_app, tx_mk]
  · refine ev_go (P := Tryz.prog) tt tt_ok 5000 20 [.tmp 2] Tryz.func129 rfl Tryz.ntmps129 rfl (Nat.le_of_ble_eq_true rfl) (fun E9 w9 hn9 hm9 => ?_)
    refine (congrArg (fun s => DV.v (.string s)) (ba_ext ?_) : _ = _)
    simp [partT]

theorem kind_any : ∀ (k : Nat) (t : Ty), t.wt ≤ k → t.wt ≤ 1099511627776 → fineT t →
    EvP Tryz.prog 72 [.agg (dTy t)] (.v (.string (ba (tyT t))))
  | 0, t, hn, _, _ => by have := t.wt_pos; omega
  | k + 1, .mk h ps, hn, hbig, hf => by
    have ih := kind_any k
    have hlen := tyT_len hf
    simp only [Ty.wt, Hd.wt, Wd.wt] at hn hbig hlen
    simp only [fineT] at hf
    obtain ⟨f1, f2, f3, f4, f5, f6⟩ := hf
    have l1 := putD_size f1.1 f1.2
    have l2 := putD_size f2.1 f2.2
    have l3 := putD_size f3.1 f3.2
    have lp := Pts.wt_len ps
    have lw := wdsWt_len h.names
    have j3 := jl_wds h.names
    have j1 := joinT_len (f := []) (s := [44, 32]) (by simp) (by simp) (h.names.map wdT)
    have jp := fun tag => ptsT_len (tag := tag) f6
    have jq := fun tag => joinT_len (f := []) (s := [44, 32]) (by simp) (by simp) (ptsT tag ps)
    obtain ⟨kind, at', lo, hi, most, names, name⟩ := h
    simp only at hn hbig hlen f1 f2 f3 f4 f5 f6 l1 l2 l3 lw j3 j1
    refine ev_go (P := Tryz.prog) tt tt_ok 5000 77 [.tmp 2] Tryz.func72 rfl Tryz.ntmps72 rfl (Nat.le_of_ble_eq_true rfl) (fun E9 w9 hn9 hm9 => ?_)
    refine br (fun k1 => ?_) (fun k1 => ?_)
    · have k1 : kind = 1 := of_decide_eq_true k1
      subst k1
      refine (congrArg (fun s => DV.v (.string s)) (ba_ext ?_) : _ = _)
      simp [tyT, headT, tx_mk]
    have k1 : ¬ kind = 1 := of_decide_eq_false k1
    refine br (fun k2 => ?_) (fun k2 => ?_)
    · have k2 : kind = 2 := of_decide_eq_true k2
      subst k2
      refine drawG_i (fun _ => false) mo (by decide +kernel) ?_
      refine callD_p (enters_of Tryz.func126 (by decide +kernel) rfl) (put_spec lo f1.1 f1.2) (by repeat' (first | exact rfl | exact trivial | exact Or.inr (Or.inl ⟨_, rfl⟩) | exact Or.inr ⟨_, rfl⟩ | exact Or.inl ⟨rfl, rfl⟩ | exact Or.inl rfl | refine Or.inr ⟨_, _, rfl, Nat.zero_le _, rfl, ?_⟩ | refine ⟨_, _, rfl, ?_, ?_⟩ | refine ⟨_, rfl, ?_⟩ | refine Or.inr (Or.inr (Or.inr ⟨_, _, rfl, ?_⟩)) | exact Or.inl rfl | refine Or.inr ?_)) rfl ?_
      refine ⟨by (simp only [sz_app, sz_ba, List.length_cons, List.length_nil]; omega), ?_⟩
      refine ⟨by (simp only [sz_app, sz_ba, List.length_cons, List.length_nil]; omega), ?_⟩
      refine callD_p (enters_of Tryz.func126 (by decide +kernel) rfl) (put_spec hi f2.1 f2.2) (by repeat' (first | exact rfl | exact trivial | exact Or.inr (Or.inl ⟨_, rfl⟩) | exact Or.inr ⟨_, rfl⟩ | exact Or.inl ⟨rfl, rfl⟩ | exact Or.inl rfl | refine Or.inr ⟨_, _, rfl, Nat.zero_le _, rfl, ?_⟩ | refine ⟨_, _, rfl, ?_, ?_⟩ | refine ⟨_, rfl, ?_⟩ | refine Or.inr (Or.inr (Or.inr ⟨_, _, rfl, ?_⟩)) | exact Or.inl rfl | refine Or.inr ?_)) rfl ?_
      refine ⟨by (simp only [sz_app, sz_ba, List.length_cons, List.length_nil]; omega), ?_⟩
      refine ⟨by (simp only [sz_app, sz_ba, List.length_cons, List.length_nil]; omega), ?_⟩
      refine (congrArg (fun s => DV.v (.string s)) (ba_ext ?_) : _ = _)
      simp [tyT, headT, tx_app, tx_mk, tx_putD]
    have k2 : ¬ kind = 2 := of_decide_eq_false k2
    refine br (fun k3 => ?_) (fun k3 => ?_)
    · have k3 : kind = 3 := of_decide_eq_true k3
      subst k3
      refine call_p (enters_of Tryz.func126 (by decide +kernel) rfl) (put_spec most f3.1 f3.2) (by repeat' (first | exact rfl | exact trivial | exact Or.inr (Or.inl ⟨_, rfl⟩) | exact Or.inr ⟨_, rfl⟩ | exact Or.inl ⟨rfl, rfl⟩ | exact Or.inl rfl | refine Or.inr ⟨_, _, rfl, Nat.zero_le _, rfl, ?_⟩ | refine ⟨_, _, rfl, ?_, ?_⟩ | refine ⟨_, rfl, ?_⟩ | refine Or.inr (Or.inr (Or.inr ⟨_, _, rfl, ?_⟩)) | exact Or.inl rfl | refine Or.inr ?_)) rfl ?_
      refine ⟨by (simp only [sz_app, sz_ba, List.length_cons, List.length_nil]; omega), ?_⟩
      refine ⟨by (simp only [sz_app, sz_ba, List.length_cons, List.length_nil]; omega), ?_⟩
      refine (congrArg (fun s => DV.v (.string s)) (ba_ext ?_) : _ = _)
      simp [tyT, headT, tx_app, tx_mk, tx_putD]
    have k3 : ¬ kind = 3 := of_decide_eq_false k3
    refine br (fun k4 => ?_) (fun k4 => ?_)
    · have k4 : kind = 4 := of_decide_eq_true k4
      subst k4
      refine call_p (enters_of Tryz.func78 (by decide +kernel) rfl) (listW_spec names (by omega)) (by repeat' (first | exact rfl | exact trivial | exact Or.inr (Or.inl ⟨_, rfl⟩) | exact Or.inr ⟨_, rfl⟩ | exact Or.inl ⟨rfl, rfl⟩ | exact Or.inl rfl | refine Or.inr ⟨_, _, rfl, Nat.zero_le _, rfl, ?_⟩ | refine ⟨_, _, rfl, ?_, ?_⟩ | refine ⟨_, rfl, ?_⟩ | refine Or.inr (Or.inr (Or.inr ⟨_, _, rfl, ?_⟩)) | exact Or.inl rfl | refine Or.inr ?_)) rfl ?_
      refine ⟨by (simp only [sz_app, sz_ba, List.length_cons, List.length_nil]; omega), ?_⟩
      refine ⟨by (simp only [sz_app, sz_ba, List.length_cons, List.length_nil]; omega), ?_⟩
      refine (congrArg (fun s => DV.v (.string s)) (ba_ext ?_) : _ = _)
      simp [tyT, headT, tx_app, tx_mk]
    have k4 : ¬ kind = 4 := of_decide_eq_false k4
    have hone : kind = 5 ∨ kind = 6 → ∃ p u us, ps = .cons p (.mk u us) .nil ∧ fineT (.mk u us) := by
      intro hk
      match ps, f5 hk, f6 with
      | .cons p (.mk u us) .nil, _, f6 =>
        simp only [fineP] at f6
        have hb : p.bare = false := by
          cases hb : p.bare
          · rfl
          · have := f6.2.2.1 hb; omega
        exact ⟨p, u, us, rfl, (f6.2.2.2.1 hb).2⟩
      | .cons p t (.cons q u r), h, _ => simp [Pts.len] at h
    refine br (fun k5 => ?_) (fun k5 => ?_)
    · have k5 : kind = 5 := of_decide_eq_true k5
      subst k5
      obtain ⟨p, u, us, rfl, hfu⟩ := hone (.inl rfl)
      have hlu := tyT_len hfu
      simp only [Pts.wt] at hn hbig
      refine drawG_i (fun _ => false) mo (by decide +kernel) ?_
      refine ⟨dPh p (dTy (.mk u us)), ⟨by omega, rfl⟩, ?_⟩
      refine callD_p (enters_of Tryz.func72 (by decide +kernel) rfl) (ih (.mk u us) (by omega) (by omega) hfu) (by repeat' (first | exact rfl | exact trivial | exact Or.inr (Or.inl ⟨_, rfl⟩) | exact Or.inr ⟨_, rfl⟩ | exact Or.inl ⟨rfl, rfl⟩ | exact Or.inl rfl | refine Or.inr ⟨_, _, rfl, Nat.zero_le _, rfl, ?_⟩ | refine ⟨_, _, rfl, ?_, ?_⟩ | refine ⟨_, rfl, ?_⟩ | refine Or.inr (Or.inr (Or.inr ⟨_, _, rfl, ?_⟩)) | exact Or.inl rfl | refine Or.inr ?_)) rfl ?_
      refine ⟨by (simp only [sz_app, sz_ba, List.length_cons, List.length_nil]; omega), ?_⟩
      refine ⟨by (simp only [sz_app, sz_ba, List.length_cons, List.length_nil]; omega), ?_⟩
      refine callD_p (enters_of Tryz.func126 (by decide +kernel) rfl) (put_spec most f3.1 f3.2) (by repeat' (first | exact rfl | exact trivial | exact Or.inr (Or.inl ⟨_, rfl⟩) | exact Or.inr ⟨_, rfl⟩ | exact Or.inl ⟨rfl, rfl⟩ | exact Or.inl rfl | refine Or.inr ⟨_, _, rfl, Nat.zero_le _, rfl, ?_⟩ | refine ⟨_, _, rfl, ?_, ?_⟩ | refine ⟨_, rfl, ?_⟩ | refine Or.inr (Or.inr (Or.inr ⟨_, _, rfl, ?_⟩)) | exact Or.inl rfl | refine Or.inr ?_)) rfl ?_
      refine ⟨by (simp only [sz_app, sz_ba, List.length_cons, List.length_nil]; omega), ?_⟩
      refine ⟨by (simp only [sz_app, sz_ba, List.length_cons, List.length_nil]; omega), ?_⟩
      refine (congrArg (fun s => DV.v (.string s)) (ba_ext ?_) : _ = _)
      simp [tyT.eq_1 ⟨5, at', lo, hi, most, names, name⟩, headT, firstT, tx_app, tx_mk, tx_putD]
    have k5 : ¬ kind = 5 := of_decide_eq_false k5
    refine br (fun k6 => ?_) (fun k6 => ?_)
    · have k6 : kind = 6 := of_decide_eq_true k6
      subst k6
      obtain ⟨p, u, us, rfl, hfu⟩ := hone (.inr rfl)
      have hlu := tyT_len hfu
      simp only [Pts.wt] at hn hbig
      refine ⟨dPh p (dTy (.mk u us)), ⟨by omega, rfl⟩, ?_⟩
      refine call_p (enters_of Tryz.func72 (by decide +kernel) rfl) (ih (.mk u us) (by omega) (by omega) hfu) (by repeat' (first | exact rfl | exact trivial | exact Or.inr (Or.inl ⟨_, rfl⟩) | exact Or.inr ⟨_, rfl⟩ | exact Or.inl ⟨rfl, rfl⟩ | exact Or.inl rfl | refine Or.inr ⟨_, _, rfl, Nat.zero_le _, rfl, ?_⟩ | refine ⟨_, _, rfl, ?_, ?_⟩ | refine ⟨_, rfl, ?_⟩ | refine Or.inr (Or.inr (Or.inr ⟨_, _, rfl, ?_⟩)) | exact Or.inl rfl | refine Or.inr ?_)) rfl ?_
      refine ⟨by (simp only [sz_app, sz_ba, List.length_cons, List.length_nil]; omega), ?_⟩
      refine ⟨by (simp only [sz_app, sz_ba, List.length_cons, List.length_nil]; omega), ?_⟩
      refine (congrArg (fun s => DV.v (.string s)) (ba_ext ?_) : _ = _)
      simp [tyT.eq_1 ⟨6, at', lo, hi, most, names, name⟩, headT, firstT, tx_app, tx_mk, tx_putD]
    have k6 : ¬ kind = 6 := of_decide_eq_false k6
    have hpt : ∀ (e : Nat) p t, ps.toList[e]? = some (p, t) → p.wt ≤ 1099511627776 ∧ I64 p.wide ∧ I64 p.cn ∧ (p.bare = true → kind = 8) ∧ (p.bare = false → 0 ≤ p.wide) ∧ (p.bare = false → (tyT t).length ≤ 1099511627776) ∧
        (p.bare = false → EvP Tryz.prog 72 [.agg (dTy t)] (.v (.string (ba (tyT t))))) := by
      intro e p t hx
      have hpw := Pts.wt_mem (List.mem_of_getElem? hx)
      obtain ⟨g1, g2, g3, g4⟩ := fineP_get f6 hx
      exact ⟨by omega, g1, g2, g3, fun hb => (g4 hb).1, fun hb => by have := tyT_len (g4 hb).2; omega, fun hb => ih t (by omega) (by omega) (g4 hb).2⟩
    refine br (fun k7 => ?_) (fun k7 => ?_)
    · have k7 : kind = 7 := of_decide_eq_true k7
      subst k7
      have jp := jp false
      have jq := jq false
      refine call_p (enters_of Tryz.func127 (by decide +kernel) rfl) (listP_spec 128 (enters_of Tryz.func128 (by decide +kernel) rfl) ps (ptsT false ps) (by omega) (ptsT_length ps) (by omega) (fun e p t hx => ⟨_, ptsT_get hx, by obtain ⟨g1, g2, g3, g4, g5, g6, g7⟩ := hpt e p t hx; have hb : p.bare = false := Bool.eq_false_iff.2 (fun hb => absurd (g4 hb) (by decide)); exact field_spec p t hb g1 g2 g3 (g5 hb) (g6 hb) (g7 hb)⟩)) (by repeat' (first | exact rfl | exact trivial | exact Or.inr (Or.inl ⟨_, rfl⟩) | exact Or.inr ⟨_, rfl⟩ | exact Or.inl ⟨rfl, rfl⟩ | exact Or.inl rfl | refine Or.inr ⟨_, _, rfl, Nat.zero_le _, rfl, ?_⟩ | refine ⟨_, _, rfl, ?_, ?_⟩ | refine ⟨_, rfl, ?_⟩ | refine Or.inr (Or.inr (Or.inr ⟨_, _, rfl, ?_⟩)) | exact Or.inl rfl | refine Or.inr ?_)) rfl ?_
      refine ⟨by (simp only [sz_app, sz_ba, List.length_cons, List.length_nil]; omega), ?_⟩
      refine ⟨by (simp only [sz_app, sz_ba, List.length_cons, List.length_nil]; omega), ?_⟩
      refine (congrArg (fun s => DV.v (.string s)) (ba_ext ?_) : _ = _)
      simp [tyT, headT, tx_app, tx_mk]
    have k7 : ¬ kind = 7 := of_decide_eq_false k7
    refine br (fun k8 => ?_) (fun k8 => ?_)
    · have k8 : kind = 8 := of_decide_eq_true k8
      subst k8
      have jp := jp true
      have jq := jq true
      refine call_p (enters_of Tryz.func127 (by decide +kernel) rfl) (listP_spec 129 (enters_of Tryz.func129 (by decide +kernel) rfl) ps (ptsT true ps) (by omega) (ptsT_length ps) (by omega) (fun e p t hx => ⟨_, ptsT_get hx, by obtain ⟨g1, g2, g3, g4, g5, g6, g7⟩ := hpt e p t hx; exact tag_spec p t g1 g2 g3 g5 g6 g7⟩)) (by repeat' (first | exact rfl | exact trivial | exact Or.inr (Or.inl ⟨_, rfl⟩) | exact Or.inr ⟨_, rfl⟩ | exact Or.inl ⟨rfl, rfl⟩ | exact Or.inl rfl | refine Or.inr ⟨_, _, rfl, Nat.zero_le _, rfl, ?_⟩ | refine ⟨_, _, rfl, ?_, ?_⟩ | refine ⟨_, rfl, ?_⟩ | refine Or.inr (Or.inr (Or.inr ⟨_, _, rfl, ?_⟩)) | exact Or.inl rfl | refine Or.inr ?_)) rfl ?_
      refine ⟨by (simp only [sz_app, sz_ba, List.length_cons, List.length_nil]; omega), ?_⟩
      refine ⟨by (simp only [sz_app, sz_ba, List.length_cons, List.length_nil]; omega), ?_⟩
      refine (congrArg (fun s => DV.v (.string s)) (ba_ext ?_) : _ = _)
      simp [tyT, headT, tx_app, tx_mk]
    have k8 : ¬ kind = 8 := of_decide_eq_false k8
    have k9 : kind = 9 := by omega
    subst k9
    refine ⟨by (simp only [sz_app, sz_ba, List.length_cons, List.length_nil]; omega), ?_⟩
    refine ⟨by (simp only [sz_app, sz_ba, List.length_cons, List.length_nil]; omega), ?_⟩
    refine (congrArg (fun s => DV.v (.string s)) (ba_ext ?_) : _ = _)
    simp [tyT, headT, tx_app, tx_mk]

/-- **unparse.kind: the type's text.** -/
theorem kind_spec (t : Ty) (hbig : t.wt ≤ 1099511627776) (hf : fineT t) : EvP Tryz.prog 72 [.agg (dTy t)] (.v (.string (ba (tyT t)))) := kind_any _ t (Nat.le_refl _) hbig hf
end Go.Proofs.YtmphiikdhifhjaaGreat
set_option maxRecDepth 100000
namespace Go.Proofs.YtmphiikdhifhjaaGreat
open Go Go.RowKit Dv Tryz

/-- A type's text, if nothing is wrong with it. -/
def typeT (t : Ty) : ByteArray := if (wrong t 1 0).1.1 = 0 then ba (tyT t) else ⟨#[]⟩

theorem utype_of (t : Ty) (hbig : t.wt ≤ 1099511627776) (hf : (wrong t 1 0).1.1 = 0 → fineT t)
    (hc : Ev Tryz.prog 125 [.loc 0 0, .agg (dTy t), .v (.int .i64 1)] [[.v (.int .i64 0)]] [] (ChkΦ t 1 0)) :
    EvP Tryz.prog 18 [.agg (dTy t)] (.v (.string (typeT t))) := by
  have hr := kright_of t hc
  have hk := fun h => kind_spec t hbig (hf h)
  have e0 : typeT t = if (wrong t 1 0).1.1 = 0 then ba (tyT t) else ⟨#[]⟩ := rfl
  obtain ⟨h, ps⟩ := t
  refine ev_go (P := Tryz.prog) tt tt_ok 5000 9 [.tmp 2] Tryz.func18 rfl Tryz.ntmps18 rfl (Nat.le_of_ble_eq_true rfl) (fun E9 w9 hn9 hm9 => ?_)
  refine call_p (enters_of Tryz.func71 (by decide +kernel) rfl) (hr) (by repeat' (first | exact rfl | exact trivial | exact Or.inr (Or.inl ⟨_, rfl⟩) | exact Or.inr ⟨_, rfl⟩ | exact Or.inl ⟨rfl, rfl⟩ | exact Or.inl rfl | refine Or.inr ⟨_, _, rfl, Nat.zero_le _, rfl, ?_⟩ | refine ⟨_, _, rfl, ?_, ?_⟩ | refine ⟨_, rfl, ?_⟩ | refine Or.inr (Or.inr (Or.inr ⟨_, _, rfl, ?_⟩)) | exact Or.inl rfl | refine Or.inr ?_)) rfl ?_
  refine br (fun hb => ?_) (fun hb => ?_)
  · have hb : ¬ (wrong (.mk h ps) 1 0).1.1 = 0 := by simpa using hb
    refine (congrArg (fun s => DV.v (.string s)) ?_ : _ = _)
    rw [e0, if_neg hb]
  · have hb : (wrong (.mk h ps) 1 0).1.1 = 0 := by simpa using hb
    refine call_p (enters_of Tryz.func72 (by decide +kernel) rfl) (hk hb) (by repeat' (first | exact rfl | exact trivial | exact Or.inr (Or.inl ⟨_, rfl⟩) | exact Or.inr ⟨_, rfl⟩ | exact Or.inl ⟨rfl, rfl⟩ | exact Or.inl rfl | refine Or.inr ⟨_, _, rfl, Nat.zero_le _, rfl, ?_⟩ | refine ⟨_, _, rfl, ?_, ?_⟩ | refine ⟨_, rfl, ?_⟩ | refine Or.inr (Or.inr (Or.inr ⟨_, _, rfl, ?_⟩)) | exact Or.inl rfl | refine Or.inr ?_)) rfl ?_
    refine (congrArg (fun s => DV.v (.string s)) ?_ : _ = _)
    rw [e0, if_pos hb]
end Go.Proofs.YtmphiikdhifhjaaGreat
set_option maxRecDepth 100000
namespace Go.Proofs.YtmphiikdhifhjaaGreat
open Go Go.RowKit Dv Tryz

mutual
/-- All numbers are ints. -/
def rngT : Ty → Prop
  | .mk h ps => I64 h.lo ∧ I64 h.hi ∧ I64 h.most ∧ rngP ps
def rngP : Pts → Prop
  | .nil => True
  | .cons p t r => I64 p.wide ∧ I64 p.cn ∧ rngT t ∧ rngP r
end

theorem own_len {h : Hd} {ps : Pts} (ho : ¬ ownB (.mk h ps) = false) : ps.len = 0 ∨ (5 ≤ h.kind ∧ h.kind ≤ 8) := by
  have h1 : ownF h ps = true := by
    rw [ownF_eq]
    cases hb : sameTy (.mk h ps) (mask (.mk h ps))
    · exact absurd hb ho
    · rfl
  unfold ownF at h1
  simp only [Bool.and_eq_true, Bool.or_eq_true, decide_eq_true_eq] at h1
  exact h1.1.1.2

mutual
theorem wrong_fine : ∀ (t : Ty) (depth m : Int), rngT t → (wrong t depth m).1.1 = 0 → fineT t
  | .mk h ps, depth, m, hr, he => by
    simp only [rngT] at hr
    obtain ⟨r1, r2, r3, r4⟩ := hr
    have i1 := wrongOne_fine h ps depth (m + 1) r4
    have i2 := wrongPts_fine h.kind (pNames ps) ps 0 depth (m + 1) r4
    simp only [wrong] at he
    by_cases c0 : 24 < depth
    · rw [if_pos c0] at he; simp at he
    rw [if_neg c0] at he
    by_cases c1 : 512 < m + 1
    · rw [if_pos c1] at he; simp at he
    rw [if_neg c1] at he
    by_cases c2 : h.kind < 1 ∨ 9 < h.kind
    · rw [if_pos c2] at he; simp at he
    rw [if_neg c2] at he
    by_cases c3 : ownB (.mk h ps) = false
    · rw [if_pos c3] at he; simp at he
    rw [if_neg c3] at he
    have ho := own_len c3
    by_cases c4 : (h.kind = 2 ∧ h.hi < h.lo) ∨ (h.kind = 3 ∧ (h.most < 0 ∨ 4096 < h.most))
    · rw [if_pos c4] at he; simp at he
    rw [if_neg c4] at he
    by_cases c5 : h.kind = 9 ∧ nameOK h.name.s = false
    · rw [if_pos c5] at he; simp at he
    rw [if_neg c5] at he
    have hnil : ¬ (5 ≤ h.kind ∧ h.kind ≤ 8) → fineP h.kind ps := by
      intro hk
      have : ps.len = 0 := ho.resolve_right hk
      cases ps with
      | nil => simp [fineP]
      | cons p t r => simp [Pts.len] at this
    simp only [fineT]
    refine ⟨r1, r2, r3, ⟨by omega, by omega⟩, ?_⟩
    by_cases k5 : h.kind = 5 ∨ h.kind = 6
    · rw [if_neg (by omega), if_pos k5] at he
      obtain ⟨j1, j2⟩ := i1 he
      exact ⟨fun _ => j1, j2 h.kind⟩
    · refine ⟨fun hk => absurd hk k5, ?_⟩
      by_cases k7 : h.kind = 7 ∨ h.kind = 8
      · rw [if_neg (by omega), if_neg k5, if_pos k7] at he
        by_cases d1 : h.kind = 8 ∧ ps.len = 0
        · rw [if_pos d1] at he; simp at he
        rw [if_neg d1] at he
        by_cases d2 : 64 < ps.len
        · rw [if_pos d2] at he; simp at he
        rw [if_neg d2] at he
        exact i2 k7 he
      · exact hnil (by omega)
theorem wrongOne_fine : ∀ (h : Hd) (ps : Pts) (depth m : Int), rngP ps → (wrongOne h ps depth m).1.1 = 0 → ps.len = 1 ∧ ∀ k : Int, fineP k ps
  | h, .cons p t .nil, depth, m, hr, he => by
    simp only [rngP] at hr
    have i := wrong_fine t (depth + 1) m hr.2.2.1
    simp only [wrongOne] at he
    by_cases c0 : p.name.s ≠ emptyB ∨ plainP p zeroPh = false
    · rw [if_pos c0] at he; simp at he
    rw [if_neg c0] at he
    by_cases c1 : h.most < 0 ∨ 1024 < h.most
    · rw [if_pos c1] at he; simp at he
    rw [if_neg c1] at he
    have hp : plainP p zeroPh = true := by
      cases hb : plainP p zeroPh
      · exact absurd (.inr hb) c0
      · rfl
    simp only [plainP, zeroPh, Bool.and_eq_true, decide_eq_true_eq, beq_iff_eq] at hp
    refine ⟨rfl, fun k => ?_⟩
    simp only [fineP]
    have hbare : p.bare = false := hp.1.1.1.1.1
    have hwide : p.wide = 0 := of_decide_eq_true hp.1.1.1.1.2
    exact ⟨hr.1, hr.2.1, fun hb => (by rw [hbare] at hb; cases hb), fun _ => ⟨by omega, i he⟩, trivial⟩
  | h, .nil, depth, m, hr, he => by simp [wrongOne] at he
  | h, .cons p t (.cons q u r), depth, m, hr, he => by simp [wrongOne] at he
theorem wrongPts_fine : ∀ (kind : Int) (all : List Wd) (ps : Pts) (i : Nat) (depth m : Int), rngP ps → (kind = 7 ∨ kind = 8) → (wrongPts kind all i ps depth m).1.1 = 0 → fineP kind ps
  | kind, all, .nil, i, depth, m, hr, hk, he => by simp [fineP]
  | kind, all, .cons p t r, i, depth, m, hr, hk, he => by
    simp only [rngP] at hr
    have i1 := wrong_fine t (depth + 1) m hr.2.2.1
    have i2 := fun m' => wrongPts_fine kind all r (i + 1) depth m' hr.2.2.2 hk
    simp only [wrongPts] at he
    simp only [fineP]
    by_cases c0 : listedF all i p.name ≠ 0
    · rw [if_pos c0] at he; exact absurd he c0
    rw [if_neg c0] at he
    by_cases c1 : p.bare = true
    · rw [if_pos c1] at he
      by_cases c2 : kind = 7 ∨ sameTy t zeroTy = false ∨ plainP p barePh = false
      · rw [if_pos c2] at he; simp at he
      rw [if_neg c2] at he
      exact ⟨hr.1, hr.2.1, fun _ => by omega, fun hb => by (rw [c1] at hb; cases hb), i2 _ he⟩
    · rw [if_neg c1] at he
      by_cases c2 : (partWd p).1 ≠ 0
      · rw [if_pos c2] at he; exact absurd he c2
      rw [if_neg c2] at he
      by_cases c3 : (wrong t (depth + 1) m).1.1 ≠ 0
      · rw [if_pos c3] at he; exact absurd he c3
      rw [if_neg c3] at he
      have hw : ¬ (p.wide < 0 ∨ 64 < p.wide) := fun hc => c2 (by simp [partWd, hc])
      exact ⟨hr.1, hr.2.1, fun hb => absurd hb c1, fun _ => ⟨by omega, i1 (by omega)⟩, i2 _ he⟩
end
end Go.Proofs.YtmphiikdhifhjaaGreat
namespace Go.Proofs.YtmphiikdhifhjaaGreat
namespace Dv
open Go Go.RowKit

/-- What the cells of a type are, as data. -/
def TypFs (f : TypeId → List DV → Prop) : List TypeId → List DV → Prop
  | [], ds => ds = []
  | t :: r, ds => ∃ a b, ds = a ++ b ∧ f t a ∧ TypFs f r b
def Typ (P : Program) : Nat → TypeId → List DV → Prop
  | 0, _, _ => False
  | n + 1, t, ds =>
    match P.underlying t with
    | some .bool => ∃ b, ds = [.v (.bool b)]
    | some (.int k) => ∃ z, ds = [.v (.int k z)] ∧ (Lit.int k z).wf = true
    | some .string => ∃ s : ByteArray, ds = [.v (.string s)]
    | some (.slice e) => ∃ es, ds = [.sl (P.cellsOf e) es none] ∧ ∀ cs ∈ es, Typ P n e cs
    | some (.struct fs) => TypFs (Typ P n) (fs.toList.map (·.type)) ds
    | _ => False

mutual
/-- A datum's weight. -/
def wgD : DV → Nat
  | .v (.string s) => s.size + 64
  | .sl _ es _ => 64 + wgEs es
  | _ => 64
def wgL : List DV → Nat
  | [] => 0
  | d :: r => wgD d + wgL r
def wgEs : List (List DV) → Nat
  | [] => 0
  | cs :: r => wgL cs + wgEs r
end

theorem wgL_append : ∀ a b : List DV, wgL (a ++ b) = wgL a + wgL b
  | [], b => by simp [wgL]
  | d :: r, b => by simp only [List.cons_append, wgL, wgL_append r b]; omega

/-- The fields of a struct lie one behind the other, and are of types of S. -/
def laidF (P : Program) (S : List TypeId) : Nat → List Field → Nat → Bool
  | off, [], n => decide (off = n)
  | off, f :: r, n => decide (f.offset = off) && S.contains f.type && laidF P S (off + P.cellsOf f.type) r n
def flatOK (P : Program) (S : List TypeId) (t : TypeId) : Bool :=
  match P.underlying t with
  | some .bool => decide (P.cellsOf t = 1)
  | some (.int _) => decide (P.cellsOf t = 1)
  | some .string => decide (P.cellsOf t = 1)
  | some (.slice e) => decide (P.cellsOf t = 1) && S.contains e && decide (0 < P.cellsOf e)
  | some (.struct fs) => laidF P S 0 fs.toList (P.cellsOf t)
  | _ => false

/-- A measure of what is read. -/
def bkS {H : Type} (bk : DataW H → Nat) : List (DataW H) → Nat
  | [] => 0
  | d :: r => bk d + bkS bk r
structure Bk {H : Type} (bk : DataW H → Nat) : Prop where
  str : ∀ l : List UInt8, l.length + 1 ≤ bk (.lit (.string l))
  lit : ∀ l, 1 ≤ bk (.lit l)
  nil : 1 ≤ bk .nil
  slice : ∀ es sp, 1 + bkS bk es ≤ bk (.slice es sp)
  agg : ∀ l, bkS bk l ≤ bk (.agg l)

/-- All of memory is known. -/
def enW (w : World) : En := ⟨fun a => w.cell? a, [], [], []⟩
theorem enW_env (w : World) : Env (enW w) [] w where
  len := rfl
  tl := rfl
  bxs := by simp
  inj := List.nodup_nil
  sub := fun x u hx => hx
  pc := by simp [enW]
  tks := by simp [enW]
  tkd := by simp [enW]

theorem cell_spot {w : World} {a : Addr} {k : Nat} {v : Value} (h : w.cell? (a.add k) = some v) : w.cell? ⟨a.block, a.off + k, none⟩ = some v := by
  unfold Addr.add at h
  split at h
  · rename_i hk
    subst hk
    unfold World.cell? at h ⊢
    split at h
    · rename_i c e z he
      split at h
      · cases h
      · simpa [he] using h
    · cases h
  · exact h
theorem spot_none {w : World} {a : Addr} {v : Value} (h : w.cell? a = some v) : a.spot = none := by
  unfold World.cell? at h
  split at h
  · split at h
    · cases h
    · rename_i hs; simpa using hs
  · cases h

theorem rvAt_cells {E : En} {b : Nat} : ∀ {p : Nat} {ds : List DV} {vs : List Value}, RvL E.cl ds vs → (∀ (j : Nat) v, vs[j]? = some v → E.c ⟨b, p + j, none⟩ = some v ∧ v.oneCell' = true) → RvAt E.cl b p ds
  | p, [], vs, h, hc => by simp only [RvAt]
  | p, d :: r, vs, h, hc => by
    simp only [RvL] at h
    obtain ⟨v, s, rfl, h1, h2⟩ := h
    simp only [RvAt]
    obtain ⟨c1, c2⟩ := hc 0 v rfl
    refine ⟨⟨v, c1, c2, h1⟩, rvAt_cells (p := p + 1) h2 fun j u hj => ?_⟩
    have := hc (j + 1) u hj
    rw [show p + 1 + j = p + (j + 1) by omega]
    exact this

section
variable {H : Type} {enc : TypeId × Value → H} {P : Program} {w : World} {sp : Nat → Bool} {held : Bool} {S : List TypeId} {bk : DataW H → Nat}

/-- What is read of some cells. -/
def Rd (enc : TypeId × Value → H) (P : Program) (w : World) (bk : DataW H → Nat) (n : Nat) (t : TypeId) (cs : List Value) (d : DataW H) : Prop :=
  ∃ ds, RvL (enW w) ds cs ∧ (∀ v ∈ cs, v.oneCell' = true) ∧ Typ P n t ds ∧ wgL ds ≤ 64 * bk d ∧ cs.length = P.cellsOf t

theorem rd_fields {n : Nat} (ih : ∀ t cs x, t ∈ S → DataW.trod enc P w 0 sp held n t cs = some x → Rd enc P w bk n t cs x.1) (cs : List Value) :
    ∀ (fs : List Field) (off : Nat) (xs : List (DataW H × List MemPlace)), laidF P S off fs cs.length = true → xs.length = fs.length →
      (∀ (i : Nat) f, fs[i]? = some f → DataW.trod enc P w 0 sp held n f.type ((cs.drop f.offset).take (P.cellsOf f.type)) = xs[i]?) →
      ∃ ds, RvL (enW w) ds (cs.drop off) ∧ (∀ v ∈ cs.drop off, v.oneCell' = true) ∧ TypFs (Typ P n) (fs.map (·.type)) ds ∧ wgL ds ≤ 64 * bkS bk (xs.map (·.1))
  | [], off, xs, hl, hxl, hx => by
    simp only [laidF, decide_eq_true_eq] at hl
    subst hl
    simp only [List.length_nil, List.length_eq_zero_iff] at hxl
    subst hxl
    exact ⟨[], by simpa using rvL_nil _, by simp, by simp [TypFs], by simp [wgL]⟩
  | f :: r, off, xs, hl, hxl, hx => by
    simp only [laidF, Bool.and_eq_true, decide_eq_true_eq] at hl
    obtain ⟨⟨hof, hS⟩, hl⟩ := hl
    match xs, hxl with
    | x :: xs, hxl =>
      have h0 := hx 0 f rfl
      rw [hof] at h0
      simp only [List.getElem?_cons_zero] at h0
      obtain ⟨ds0, r1, r2, r3, r4, r5⟩ := ih f.type _ x (by simpa using hS) h0
      obtain ⟨ds1, s1, s2, s3, s4⟩ := rd_fields ih cs r (off + P.cellsOf f.type) xs hl (by simpa using hxl) (fun i g hg => by simpa using hx (i + 1) g (by simpa using hg))
      have hsplit : cs.drop off = (cs.drop off).take (P.cellsOf f.type) ++ cs.drop (off + P.cellsOf f.type) := by
        rw [← List.drop_drop, List.take_append_drop]
      refine ⟨ds0 ++ ds1, ?_, ?_, ?_, ?_⟩
      · rw [hsplit]; exact RvL.append r1 s1
      · rw [hsplit]
        intro v hv
        rcases List.mem_append.1 hv with hv | hv
        · exact r2 v hv
        · exact s2 v hv
      · simp only [List.map_cons, TypFs]
        exact ⟨ds0, ds1, rfl, r3, s3⟩
      · rw [wgL_append]
        simp only [List.map_cons, bkS]
        omega

theorem rd_elems {n e : Nat} (ih : ∀ t cs x, t ∈ S → DataW.trod enc P w 0 sp held n t cs = some x → Rd enc P w bk n t cs x.1) (he : e ∈ S) (a : Addr) :
    ∀ (xs : List (DataW H × List MemPlace)) (i0 : Nat), (∀ i, i < xs.length → (w.cells? 0 (a.add ((i0 + i) * P.cellsOf e)) (P.cellsOf e)).bind (DataW.trod enc P w 0 sp held n e) = xs[i]?) →
      ∃ es, es.length = xs.length ∧ RvEs (enW w) (P.cellsOf e) a.block (a.off + i0 * P.cellsOf e) es ∧ (∀ cs ∈ es, Typ P n e cs) ∧ wgEs es ≤ 64 * bkS bk (xs.map (·.1))
  | [], i0, hx => ⟨[], rfl, by simp only [RvEs], by simp, by simp [wgEs]⟩
  | x :: xs, i0, hx => by
    have h0 := hx 0 (by simp)
    simp only [Nat.add_zero, List.getElem?_cons_zero] at h0
    obtain ⟨cs, hcs, ht⟩ := Option.bind_eq_some_iff.1 h0
    obtain ⟨_, hlen, hcell⟩ := World.cells?_some hcs
    obtain ⟨ds0, r1, r2, r3, r4, r5⟩ := ih e cs x he ht
    obtain ⟨es, s1, s2, s3, s4⟩ := rd_elems ih he a xs (i0 + 1) (fun i hi => by
      have := hx (i + 1) (by simpa using hi)
      simp only [List.getElem?_cons_succ] at this
      rw [show i0 + 1 + i = i0 + (i + 1) by omega]
      exact this)
    refine ⟨ds0 :: es, by simp [s1], ?_, ?_, ?_⟩
    · simp only [RvEs]
      refine ⟨by rw [← r1.length, hlen], rvAt_cells (E := enW w) r1 fun j v hj => ⟨?_, r2 v (List.mem_of_getElem? hj)⟩, ?_⟩
      · have hjl : j < P.cellsOf e := by rw [← hlen]; exact (List.getElem?_eq_some_iff.1 hj).1
        have h1 := hcell j hjl
        rw [hj, Deep.add_add] at h1
        have h2 := cell_spot h1
        show w.cell? _ = _
        rw [Nat.add_assoc]
        exact h2
      · rw [Nat.add_assoc, show i0 * P.cellsOf e + P.cellsOf e = (i0 + 1) * P.cellsOf e by rw [Nat.add_mul, Nat.one_mul]]
        exact s2
    · intro cs' hc
      rcases List.mem_cons.1 hc with hc | hc
      · subst hc; exact r3
      · exact s3 cs' hc
    · simp only [wgEs, List.map_cons, bkS]
      omega

theorem rd_trod (hbk : Bk bk) (hS : ∀ t ∈ S, flatOK P S t = true) : ∀ (n : Nat) (t : TypeId) (cs : List Value) (x : DataW H × List MemPlace), t ∈ S → DataW.trod enc P w 0 sp held n t cs = some x → Rd enc P w bk n t cs x.1
  | 0, t, cs, x, _, h => by simp [DataW.trod] at h
  | n + 1, t, cs, x, ht, h => by
    have hf := hS t ht
    unfold flatOK at hf
    unfold Rd
    cases hu : P.underlying t with
    | none => rw [hu] at hf; cases hf
    | some D =>
      rw [hu] at hf
      cases D with
      | bool =>
        simp only [decide_eq_true_eq] at hf
        obtain ⟨b, rfl, rfl⟩ := DataW.trod_bool hu h
        have := hbk.lit (.bool b)
        exact ⟨[.v (.bool b)], rvL_one (by unfold Rv; exact ⟨rfl, rfl⟩), by simp [Value.oneCell'], by simp only [Typ, hu]; exact ⟨b, rfl⟩, by simp only [wgL, wgD]; omega, by simp [hf]⟩
      | int k =>
        simp only [decide_eq_true_eq] at hf
        obtain ⟨z, rfl, rfl, hw⟩ := DataW.trod_int hu h
        have := hbk.lit (.int k z)
        exact ⟨[.v (.int k z)], rvL_one (by unfold Rv; exact ⟨rfl, rfl⟩), by simp [Value.oneCell'], by simp only [Typ, hu]; exact ⟨z, rfl, hw⟩, by simp only [wgL, wgD]; omega, by simp [hf]⟩
      | string =>
        simp only [decide_eq_true_eq] at hf
        obtain ⟨s, rfl, rfl, hw⟩ := DataW.trod_string hu h
        have := hbk.str s.data.toList
        have hsz : s.data.toList.length = s.size := by rw [Array.length_toList]; rfl
        exact ⟨[.v (.string s)], rvL_one (by unfold Rv; exact ⟨rfl, rfl⟩), by simp [Value.oneCell'], by simp only [Typ, hu]; exact ⟨s, rfl⟩, by simp only [wgL, wgD]; omega, by simp [hf]⟩
      | slice e =>
        simp only [Bool.and_eq_true, decide_eq_true_eq] at hf
        obtain ⟨⟨hf1, hf2⟩, hf3⟩ := hf
        rcases DataW.trod_slice hu h with ⟨rfl, rfl⟩ | ⟨a, len, cap, elems, rest, m, hm, rfl, rfl, _, hlc, _, hel, hx, _, _⟩
        · have := hbk.nil
          refine ⟨[.sl (P.cellsOf e) [] none], rvL_one ?_, by simp [Value.oneCell'], by simp only [Typ, hu]; exact ⟨[], rfl, by simp⟩, by simp only [wgL, wgD, wgEs]; omega, by simp [hf1]⟩
          unfold Rv
          exact ⟨none, 0, 0, rfl, ⟨rfl, Nat.le_refl _⟩, fun hc => absurd rfl hc, fun k hk => by cases hk⟩
        · simp only [Nat.add_right_cancel_iff] at hm
          subst hm
          obtain ⟨es, s1, s2, s3, s4⟩ := rd_elems (fun t cs x => rd_trod hbk hS n t cs x) (by simpa using hf2) a elems 0 (fun i hi => by simpa using hx i (by omega))
          have hb := hbk.slice (elems.map (·.1)) (rest.map (·.1))
          refine ⟨[.sl (P.cellsOf e) es none], rvL_one ?_, by simp [Value.oneCell'], by simp only [Typ, hu]; exact ⟨es, rfl, s3⟩, by simp only [wgL, wgD]; omega, by simp [hf1]⟩
          unfold Rv
          refine ⟨some a, len, cap, rfl, ⟨by omega, hlc⟩, fun hne => ⟨?_, ?_⟩, fun k hk => by cases hk⟩
          · have hpos : 0 < len := by
              rw [← hel, ← s1]
              exact List.length_pos_iff.2 hne
            have h0 := hx 0 hpos
            rw [List.getElem?_eq_getElem (by omega)] at h0
            obtain ⟨cs, hcs, _⟩ := Option.bind_eq_some_iff.1 h0
            obtain ⟨_, hlen, hcell⟩ := World.cells?_some hcs
            have h1 := hcell 0 hf3
            rw [List.getElem?_eq_getElem (by omega), Deep.add_add] at h1
            simp only [Nat.zero_mul, Nat.add_zero] at h1
            exact spot_none (a := a) h1
          · have s2' : RvEs (enW w) (P.cellsOf e) a.block a.off es := by simpa using s2
            exact s2'
      | struct fs =>
        obtain ⟨xs, m, hm, rfl, hlen, hxl, hx⟩ := DataW.trod_struct hu h
        simp only [Nat.add_right_cancel_iff] at hm
        subst hm
        simp only at hf
        obtain ⟨ds, s1, s2, s3, s4⟩ := rd_fields (fun t cs x => rd_trod hbk hS n t cs x) cs fs.toList 0 xs (by rw [hlen]; exact hf) (by simpa using hxl) (fun i f hi => hx i f (by simpa using hi))
        have hb := hbk.agg (xs.map (·.1))
        refine ⟨ds, by simpa using s1, by simpa using s2, by simp only [Typ, hu]; exact s3, by simp only; omega, hlen⟩
      | _ => cases hf
end

/-! ### What is known of a type's data -/
theorem typ_int {P : Program} {n : Nat} {t : TypeId} {k : IntKind} {ds : List DV} (hu : P.underlying t = some (.int k)) (h : Typ P n t ds) : ∃ z, ds = [.v (.int k z)] ∧ (Lit.int k z).wf = true := by
  cases n with
  | zero => exact h.elim
  | succ n => simp only [Typ, hu] at h; exact h
theorem typ_bool {P : Program} {n : Nat} {t : TypeId} {ds : List DV} (hu : P.underlying t = some .bool) (h : Typ P n t ds) : ∃ b, ds = [.v (.bool b)] := by
  cases n with
  | zero => exact h.elim
  | succ n => simp only [Typ, hu] at h; exact h
theorem typ_str {P : Program} {n : Nat} {t : TypeId} {ds : List DV} (hu : P.underlying t = some .string) (h : Typ P n t ds) : ∃ s : ByteArray, ds = [.v (.string s)] := by
  cases n with
  | zero => exact h.elim
  | succ n => simp only [Typ, hu] at h; exact h
theorem typ_sl {P : Program} {n : Nat} {t e : TypeId} {ds : List DV} (hu : P.underlying t = some (.slice e)) (h : Typ P n t ds) : ∃ m es, n = m + 1 ∧ ds = [.sl (P.cellsOf e) es none] ∧ ∀ cs ∈ es, Typ P m e cs := by
  cases n with
  | zero => exact h.elim
  | succ n =>
    simp only [Typ, hu] at h
    obtain ⟨es, h1, h2⟩ := h
    exact ⟨n, es, rfl, h1, h2⟩
theorem typ_st {P : Program} {n : Nat} {t : TypeId} {fs : Array Field} {ds : List DV} (hu : P.underlying t = some (.struct fs)) (h : Typ P n t ds) : ∃ m, n = m + 1 ∧ TypFs (Typ P m) (fs.toList.map (·.type)) ds := by
  cases n with
  | zero => exact h.elim
  | succ n =>
    simp only [Typ, hu] at h
    exact ⟨n, rfl, h⟩
theorem wf_i64 {z : Int} (h : (Lit.int .i64 z).wf = true) : -9223372036854775808 ≤ z ∧ z ≤ 9223372036854775807 := by
  simpa [Lit.wf, IntKind.min, IntKind.max, IntKind.signed, IntKind.bits] using h
end Dv
end Go.Proofs.YtmphiikdhifhjaaGreat
set_option maxRecDepth 100000
namespace Go.Proofs.YtmphiikdhifhjaaGreat
open Go Go.RowKit Dv Tryz

theorem cells_word : Tryz.prog.cellsOf 25 = 2 := by kernel_rfl
theorem cells_part : Tryz.prog.cellsOf 109 = 18 := by kernel_rfl

theorem typ_wd {n : Nat} {ds : List DV} (h : Typ Tryz.prog n 25 ds) : ∃ w : Wd, ds = dWd w ∧ w.wt ≤ wgL ds := by
  obtain ⟨m, _, hf⟩ := typ_st Tryz.underlying25 h
  obtain ⟨a, b, rfl, h1, c, d, rfl, h2, rfl⟩ := hf
  obtain ⟨s, rfl⟩ := typ_str Tryz.underlying9 h1
  obtain ⟨z, rfl, _⟩ := typ_int Tryz.underlying3 h2
  exact ⟨⟨s, z⟩, rfl, by simp [wgL, wgD, Wd.wt]⟩

theorem es_wds : ∀ {m : Nat} {es : List (List DV)}, (∀ cs ∈ es, Typ Tryz.prog m 25 cs) → ∃ l : List Wd, es = dWds l ∧ wdsWt l ≤ wgEs es
  | m, [], h => ⟨[], rfl, by simp [wdsWt, wgEs]⟩
  | m, cs :: r, h => by
    obtain ⟨w, rfl, hw⟩ := typ_wd (h cs (by simp))
    obtain ⟨l, rfl, hl⟩ := es_wds (m := m) (es := r) (fun c hc => h c (List.mem_cons_of_mem _ hc))
    exact ⟨w :: l, rfl, by simp only [wdsWt, wgEs]; omega⟩

theorem typ_wds {n : Nat} {ds : List DV} (h : Typ Tryz.prog n 22 ds) : ∃ l : List Wd, ds = [.sl 2 (dWds l) none] ∧ 64 + wdsWt l ≤ wgL ds := by
  obtain ⟨m, es, _, rfl, he⟩ := typ_sl Tryz.underlying22 h
  obtain ⟨l, rfl, hl⟩ := es_wds he
  rw [cells_word]
  exact ⟨l, rfl, by simp only [wgL, wgD]; omega⟩

theorem typ_i {n : Nat} {ds : List DV} (h : Typ Tryz.prog n 3 ds) : ∃ z, ds = [.v (.int .i64 z)] ∧ I64 z := by
  obtain ⟨z, rfl, hw⟩ := typ_int Tryz.underlying3 h
  exact ⟨z, rfl, wf_i64 hw⟩

theorem es_pts {m : Nat} (ih : ∀ k, k < m → ∀ ds, Typ Tryz.prog k 27 ds → ∃ t : Ty, ds = dTy t ∧ rngT t ∧ t.wt ≤ wgL ds) :
    ∀ {es : List (List DV)}, (∀ cs ∈ es, Typ Tryz.prog m 109 cs) → ∃ ps : Pts, es = dPts ps ∧ rngP ps ∧ ps.wt ≤ wgEs es
  | [], h => ⟨.nil, by simp [dPts], by simp [rngP], by simp [Pts.wt]⟩
  | cs :: r, h => by
    obtain ⟨ps, rfl, hr, hl⟩ := es_pts ih (es := r) (fun c hc => h c (List.mem_cons_of_mem _ hc))
    obtain ⟨k, rfl, hf⟩ := typ_st Tryz.underlying109 (h cs (by simp))
    obtain ⟨a1, b1, rfl, h1, a2, b2, rfl, h2, a3, b3, rfl, h3, a4, b4, rfl, h4, a5, b5, rfl, h5, a6, b6, rfl, h6, rfl⟩ := hf
    obtain ⟨nm, rfl, w1⟩ := typ_wd h1
    obtain ⟨bare, rfl⟩ := typ_bool Tryz.underlying4 h2
    obtain ⟨lab, rfl, w3⟩ := typ_wds h3
    obtain ⟨wide, rfl, r4⟩ := typ_i h4
    obtain ⟨k5, _, hf5⟩ := typ_st Tryz.underlying107 h5
    obtain ⟨c1, d1, rfl, g1, c2, d2, rfl, g2, c3, d3, rfl, g3, c4, d4, rfl, g4, rfl⟩ := hf5
    obtain ⟨ck, rfl, _⟩ := typ_i g1
    obtain ⟨cn, rfl, q2⟩ := typ_i g2
    obtain ⟨ca, rfl, _⟩ := typ_i g3
    obtain ⟨cl, rfl, w5⟩ := typ_wds g4
    obtain ⟨t, rfl, rt, wt⟩ := ih k (by omega) _ h6
    refine ⟨.cons ⟨nm, bare, lab, wide, ck, cn, ca, cl⟩ t ps, ?_, by simp only [rngP]; exact ⟨r4, q2, rt, hr⟩, ?_⟩
    · simp only [dPts, dPh, dWd, List.cons_append, List.nil_append, List.append_nil]
    · simp only [Pts.wt, Ph.wt, wgEs, wgL_append, wgL, wgD, dWd] at *
      simp only [Wd.wt] at *
      omega

theorem typ_ty : ∀ (n : Nat) (ds : List DV), Typ Tryz.prog n 27 ds → ∃ t : Ty, ds = dTy t ∧ rngT t ∧ t.wt ≤ wgL ds := by
  intro n
  induction n using Nat.strongRecOn with
  | _ n ih =>
    intro ds h
    obtain ⟨m, rfl, hf⟩ := typ_st Tryz.underlying27 h
    obtain ⟨a1, b1, rfl, h1, a2, b2, rfl, h2, a3, b3, rfl, h3, a4, b4, rfl, h4, a5, b5, rfl, h5, a6, b6, rfl, h6, a7, b7, rfl, h7, a8, b8, rfl, h8, rfl⟩ := hf
    obtain ⟨kind, rfl, _⟩ := typ_i h1
    obtain ⟨at', rfl, _⟩ := typ_i h2
    obtain ⟨lo, rfl, r3⟩ := typ_i h3
    obtain ⟨hi, rfl, r4⟩ := typ_i h4
    obtain ⟨most, rfl, r5⟩ := typ_i h5
    obtain ⟨names, rfl, w6⟩ := typ_wds h6
    obtain ⟨k, es, rfl, rfl, hes⟩ := typ_sl Tryz.underlying23 h7
    obtain ⟨ps, rfl, rp, wp⟩ := es_pts (fun j hj => ih j (by omega)) hes
    obtain ⟨nm, rfl, w8⟩ := typ_wd h8
    rw [cells_part]
    refine ⟨.mk ⟨kind, at', lo, hi, most, names, nm⟩ ps, ?_, by simp only [rngT]; exact ⟨r3, r4, r5, rp⟩, ?_⟩
    · simp only [dTy, dWd, List.cons_append, List.nil_append, List.append_nil]
    · simp only [Ty.wt, Hd.wt, wgL_append, wgL, wgD, dWd] at *
      simp only [Wd.wt] at *
      omega
end Go.Proofs.YtmphiikdhifhjaaGreat
namespace Go.Proofs.YtmphiikdhifhjaaGreat
namespace Dv
open Go Go.RowKit Go.ChangeShapes Go.WideShapes Go.ChangeAt
open Go.ChangeMaps (open_string shut_string)

section
variable {H : Type} {enc : TypeId × Value → H} {P : Program}

theorem trodAll_stays (hl : laidOutB P = true) {W W' : World} (hb : Below W.heap.size W W') : ∀ {ts : List TypeId} {vs : List Value} {ds : List (DataW H)} {ps : List MemPlace}, (∀ t ∈ ts, P.readableRec t = true ∧ t < P.types.size) →
    DataW.TrodAll enc P W 0 (fun _ => true) true ts vs ds ps → (∀ x ∈ ps, x.block < W.heap.size) → DataW.TrodAll enc P W' 0 (fun b => decide (b < W.heap.size)) true ts vs ds ps
  | [], [], [], _, _, h, _ => h
  | t :: ts, v :: vs, d :: ds, _, ht, ⟨p, q, h1, h2, e⟩, hlt => by
    subst e
    obtain ⟨r1, r2⟩ := ht t (by simp)
    exact ⟨p, q, Below.trod hl r1 r2 h1 hb (fun x hx => hlt x (List.mem_append_left _ hx)), trodAll_stays hl hb (fun t ht' => ht t (by simp [ht'])) h2 (fun x hx => hlt x (List.mem_append_right _ hx)), rfl⟩

/-- **What is asked behind the call of a law that returned true**, where nothing that was there has turned. -/
theorem law_post {f : Func} {s : ChangeSpec} {tb : TypeId} (hl : laidOutB P = true) (hres : f.resultTypes = #[tb]) (htb : P.underlying tb = some .bool) (hv : s.vars = []) (hts : ∀ t ∈ f.params.toList, P.readableRec t = true ∧ t < P.types.size)
    {W W' : World} {args : Array Value} {ds gs : List (DataW H)} {before : List MemPlace} (hW : DataW.Whole enc P f.params.toList s.vars false W args.toList ds gs before) (hfn : s.fn H ds = { results := [.lit (.bool true)], args := ds }) (hb : Below W.heap.size W W') :
    s.post enc P f false true false false W args (.bool true) W' := by
  have hW' := hW
  obtain ⟨p, q, hA, hV, rfl, hfz, hnd⟩ := hW
  rw [hv] at hV
  obtain ⟨rfl, rfl⟩ := trodVars_none hV
  refine ⟨ds, [], p ++ [], [], p, [], hW', ?_, ?_, ?_, hb.frame _, fun h => by cases h⟩
  · rw [List.append_nil, hfn, hres]
    exact trodAll_cons_mk (shut_bool htb _) trodAll_mk0
  · rw [List.append_nil, hfn]
    exact trodAll_stays hl hb hts hA (fun x hx => hW'.lt x (List.mem_append_left _ hx))
  · rw [List.append_nil, hfn, hv]
    rfl

/-- What was there stays. -/
theorem endd_below {w w' : World} {Φ : DV → List (List DV) → List TkE → Prop} {v : Value} (h : Endd false (enW w) w Φ v w') : Below w.heap.size w w' := by
  obtain ⟨hm, _⟩ := h
  refine ⟨hm.os, hm.tape, hm.output, hm.size, fun k hk => hm.block k hk ?_⟩
  rintro (h1 | ⟨y, h1, _⟩)
  · simp [enW] at h1
  · simp [enW] at h1

theorem calls_law {f : FuncId} {args : List DV} {vs : List Value} {w : World} (h : EvP P f args (.v (.bool true))) (hv : RvL (enW w) args vs) :
    Calls P f vs.toArray w fun e w' => e = .returned (.bool true) ∧ Below w.heap.size w w' := by
  refine (h (enW w) w vs (enW_env w) rfl hv).mono ?_
  rintro e w' ⟨v, rfl, he⟩
  have hb := endd_below he
  obtain ⟨_, _, d, os, E, _, _, _, _, hr, rfl⟩ := he
  unfold Rv at hr
  rw [hr.1]
  exact ⟨rfl, hb⟩

variable {W : World} {base : Nat} {S : List TypeId} {bk : DataW H → Nat}

/-- A struct that came in. -/
theorem arg_st (hbk : Bk bk) (hS : ∀ t ∈ S, flatOK P S t = true) {t : TypeId} {fs : Array Field} {v : Value} {d : DataW H} {ps : List MemPlace} (ht : t ∈ S) (hu : P.underlying t = some (.struct fs))
    (hval : Value.okWide P W .any base t v) (h : DataW.Trod enc P W 0 (fun _ => true) true t v d ps) : ∃ n ds, Rv (enW W) (.agg ds) v ∧ Typ P n t ds ∧ wgL ds ≤ 64 * bk d := by
  unfold Value.okWide at hval
  rw [hu] at hval
  obtain ⟨cs, rfl, _, _⟩ := hval
  obtain ⟨n, hn⟩ := h
  obtain ⟨ds, h1, h2, h3, h4, _⟩ := rd_trod hbk hS n t _ _ ht hn
  refine ⟨n, ds, ?_, h3, h4⟩
  unfold Rv
  exact ⟨cs.toList, by simp, h1, h2⟩
end
end Dv
end Go.Proofs.YtmphiikdhifhjaaGreat
namespace Go.Proofs.YtmphiikdhifhjaaGreat
open Go Go.RowKit Dv

theorem bk_all {H : Type} : ∀ l : List (DataW H), bkS Rows.uptoBulk l = Rows.uptoBulkAll l
  | [] => by simp [bkS, Rows.uptoBulkAll]
  | d :: r => by simp only [bkS, Rows.uptoBulkAll, bk_all r]
theorem bk_ok {H : Type} : Bk (Rows.uptoBulk (H := H)) where
  str := fun l => by simp [Rows.uptoBulk]
  lit := fun l => by cases l <;> simp [Rows.uptoBulk]
  nil := by simp [Rows.uptoBulk]
  slice := fun es sp => by simp only [Rows.uptoBulk, bk_all]; omega
  agg := fun l => by simp only [Rows.uptoBulk, bk_all]; omega
theorem bulk_le {H : Type} {l : List (DataW H)} (hk : Rows.uptoSmall H l = true) : Rows.uptoBulkAll l ≤ 1048576 := of_decide_eq_true hk

theorem laid_out : laidOutB Tryz.prog = true := by kernel_rfl
theorem own_knob : ownKnob Tryz.prog.godebug = none := by kernel_rfl

/-- The types that types and schemas are made of. -/
def tyS : List TypeId := [27, 22, 25, 9, 3, 23, 109, 4, 107]
theorem tyS_ok : ∀ t ∈ tyS, flatOK Tryz.prog tyS t = true := by
  have h : (tyS.all fun t => flatOK Tryz.prog tyS t) = true := by kernel_rfl
  exact fun t ht => List.all_eq_true.1 h t ht
end Go.Proofs.YtmphiikdhifhjaaGreat

set_option maxRecDepth 100000
namespace Go.Proofs.YtmphiikdhifhjaaGreat
open Go Go.RowKit Dv Tryz

def stripWd (w : Wd) : Wd := ⟨w.s, 0⟩
def stripHd (h : Hd) : Hd := ⟨h.kind, 0, h.lo, h.hi, h.most, plainW h.names, stripWd h.name⟩
def stripPh (p : Ph) : Ph := ⟨stripWd p.name, p.bare, plainW p.label, p.wide, p.ck, p.cn, 0, plainW p.cl⟩
mutual
def stripT : Ty → Ty
  | .mk h ps => .mk (stripHd h) (stripP ps)
def stripP : Pts → Pts
  | .nil => .nil
  | .cons p t r => .cons (stripPh p) (stripT t) (stripP r)
end

theorem plainW_wt (l : List Wd) : wdsWt (plainW l) = wdsWt l := by
  induction l with
  | nil => rfl
  | cons w r ih => simp only [plainW, List.map_cons, wdsWt, Wd.wt] at ih ⊢; rw [ih]
mutual
theorem stripT_wt : ∀ t : Ty, (stripT t).wt = t.wt
  | .mk h ps => by simp only [stripT, Ty.wt, Hd.wt, stripHd, stripWd, Wd.wt, plainW_wt, stripP_wt ps]
theorem stripP_wt : ∀ ps : Pts, (stripP ps).wt = ps.wt
  | .nil => by simp only [stripP]
  | .cons p t r => by simp only [stripP, Pts.wt, Ph.wt, stripPh, stripWd, Wd.wt, plainW_wt, stripT_wt t, stripP_wt r]
end
theorem stripP_len : ∀ ps : Pts, (stripP ps).len = ps.len
  | .nil => by simp only [stripP]
  | .cons p t r => by simp only [stripP, Pts.len, stripP_len r]
theorem stripP_get : ∀ {ps : Pts} {e : Nat} {p : Ph} {t : Ty}, ps.toList[e]? = some (p, t) → (stripP ps).toList[e]? = some (stripPh p, stripT t)
  | .nil, e, p, t, h => by simp [Pts.toList] at h
  | .cons q u r, 0, p, t, h => by
    simp only [Pts.toList, List.getElem?_cons_zero, Option.some.injEq, Prod.mk.injEq] at h
    obtain ⟨rfl, rfl⟩ := h
    simp [stripP, Pts.toList]
  | .cons q u r, e + 1, p, t, h => by
    simp only [Pts.toList, List.getElem?_cons_succ] at h
    simp only [stripP, Pts.toList, List.getElem?_cons_succ]
    exact stripP_get h

/-- The first e parts. -/
def Pts.take : Nat → Pts → Pts
  | 0, _ => .nil
  | _ + 1, .nil => .nil
  | e + 1, .cons p t r => .cons p t (r.take e)
theorem Pts.take_zero (ps : Pts) : ps.take 0 = .nil := by cases ps <;> rfl
theorem Pts.take_snoc : ∀ {ps : Pts} {e : Nat} {p : Ph} {t : Ty}, ps.toList[e]? = some (p, t) → dPts (ps.take e) ++ [dPh p (dTy t)] = dPts (ps.take (e + 1))
  | .nil, e, p, t, h => by simp [Pts.toList] at h
  | .cons q u r, 0, p, t, h => by
    simp only [Pts.toList, List.getElem?_cons_zero, Option.some.injEq, Prod.mk.injEq] at h
    obtain ⟨rfl, rfl⟩ := h
    simp [Pts.take, Pts.take_zero, dPts]
  | .cons q u r, e + 1, p, t, h => by
    simp only [Pts.toList, List.getElem?_cons_succ] at h
    simp only [Pts.take, dPts, List.cons_append]
    rw [Pts.take_snoc h]
theorem Pts.take_len : ∀ (ps : Pts) (e : Nat), e ≤ ps.len → (ps.take e).len = e
  | ps, 0, _ => by rw [Pts.take_zero]; rfl
  | .nil, e + 1, h => by simp [Pts.len] at h
  | .cons p t r, e + 1, h => by simp only [Pts.len, Pts.take] at h ⊢; rw [Pts.take_len r e (by omega)]
theorem Pts.take_all : ∀ ps : Pts, ps.take ps.len = ps
  | .nil => rfl
  | .cons p t r => by simp only [Pts.len, Pts.take, Pts.take_all r]

abbrev kstripSt (h : Hd) (ps qs : Pts) (n e : Nat) : St :=
  ⟨[(1, ⟨[], .loc 0 0⟩), (2, ⟨[], .loc 1 0⟩), (14, ⟨[], .sl 18 (dPts ps) none⟩), (15, ⟨[], .v (.int .i64 (dPts ps).length)⟩), (16, ⟨[], .v (.int .i64 e)⟩), (3, ⟨[], .sl 18 (dPts qs) (some 0)⟩)],
   [dTy (.mk (stripHd h) ps), [.v (.int .i64 0), .v (.int .i64 0), .v (.int .i64 0), .v (.int .i64 0), .v (.int .i64 0), .v (.slice none 0 0), .v (.slice none 0 0), .v (.string ByteArray.empty), .v (.int .i64 0)]], [⟨n, 109, 18⟩]⟩

theorem kstrip_step (k : Nat) (ih : ∀ t : Ty, t.wt ≤ k → t.wt ≤ 1099511627776 → EvP Tryz.prog 102 [.agg (dTy t)] (.agg (dTy (stripT t)))) (h : Hd) (ps : Pts) (hk : ps.wt ≤ k) (hbig : (Ty.mk h ps).wt ≤ 1099511627776) :
    EvP Tryz.prog 102 [.agg (dTy (.mk h ps))] (.agg (dTy (stripT (.mk h ps)))) := by
  simp only [Ty.wt, Hd.wt] at hbig
  have hpl := ps.wt_len
  refine ev_go (P := Tryz.prog) tt tt_ok 5000 46 [.cell 2 27] Tryz.func102 rfl Tryz.ntmps102 rfl (Nat.le_of_ble_eq_true rfl) (fun E9 w9 hn9 hm9 => ?_)
  refine call_p (enters_of Tryz.func158 (by decide +kernel) rfl) (words_spec h.names (by omega)) (by repeat' (first | exact rfl | exact trivial | exact Or.inr (Or.inl ⟨_, rfl⟩) | exact Or.inr ⟨_, rfl⟩ | exact Or.inl ⟨rfl, rfl⟩ | exact Or.inl rfl | refine Or.inr ⟨_, _, rfl, Nat.zero_le _, rfl, ?_⟩ | refine ⟨_, _, rfl, ?_, ?_⟩ | refine ⟨_, rfl, ?_⟩ | refine Or.inr (Or.inr (Or.inr ⟨_, _, rfl, ?_⟩)) | exact Or.inl rfl | refine Or.inr ?_)) rfl ?_
  refine loop_i (fun j st => ∃ e : Nat, st = kstripSt h ps ((stripP ps).take e) e e ∧ e ≤ ps.len ∧ j = ps.len - e) ps.len (kstripSt h ps .nil 0 0) (weak_tok ⟨0, 109, 18⟩ rfl ⟨_, rfl⟩ rfl (by repeat' (first | exact rfl | exact we_rfl rfl | refine ⟨_, _, rfl, ?_, ?_⟩)) rfl rfl (by repeat' (first | exact trivial | exact we_rfl rfl | exact we_rfl rfl | exact we_tok (Nat.le_refl _) rfl | refine ⟨⟨_, rfl, ?_⟩, ?_⟩))) ⟨0, by rw [Pts.take_zero], by omega, by omega⟩ ?_
  rintro j st ⟨e, rfl, he, rfl⟩
  refine br (fun hL => ?_) (fun hL => ?_)
  · have hlt : e < ps.len := by simpa [dPts_len] using hL
    obtain ⟨p, t, hx⟩ := Pts.get_lt hlt
    have hwt := Pts.wt_mem (List.mem_of_getElem? hx)
    have hsn := Pts.take_snoc (stripP_get hx)
    have htl := Pts.take_len (stripP ps) e (by rw [stripP_len]; omega)
    have hpw : p.wt + 0 ≤ ps.wt := by omega
    simp only [Ph.wt] at hpw
    have hih := ih t (by omega) (by omega)
    obtain ⟨u, us⟩ := t
    refine ⟨_, ⟨by omega, dPts_get hx⟩, ?_⟩
    refine call_p (enters_of Tryz.func158 (by decide +kernel) rfl) (words_spec p.label (by omega)) (by repeat' (first | exact rfl | exact trivial | exact Or.inr (Or.inl ⟨_, rfl⟩) | exact Or.inr ⟨_, rfl⟩ | exact Or.inl ⟨rfl, rfl⟩ | exact Or.inl rfl | refine Or.inr ⟨_, _, rfl, Nat.zero_le _, rfl, ?_⟩ | refine ⟨_, _, rfl, ?_, ?_⟩ | refine ⟨_, rfl, ?_⟩ | refine Or.inr (Or.inr (Or.inr ⟨_, _, rfl, ?_⟩)) | exact Or.inl rfl | refine Or.inr ?_)) rfl ?_
    refine call_p (enters_of Tryz.func158 (by decide +kernel) rfl) (words_spec p.cl (by omega)) (by repeat' (first | exact rfl | exact trivial | exact Or.inr (Or.inl ⟨_, rfl⟩) | exact Or.inr ⟨_, rfl⟩ | exact Or.inl ⟨rfl, rfl⟩ | exact Or.inl rfl | refine Or.inr ⟨_, _, rfl, Nat.zero_le _, rfl, ?_⟩ | refine ⟨_, _, rfl, ?_, ?_⟩ | refine ⟨_, rfl, ?_⟩ | refine Or.inr (Or.inr (Or.inr ⟨_, _, rfl, ?_⟩)) | exact Or.inl rfl | refine Or.inr ?_)) rfl ?_
    rw [show stripT (.mk u us) = .mk (stripHd u) (stripP us) by simp only [stripT]] at hih hsn
    refine call_p (enters_of Tryz.func102 (by decide +kernel) rfl) (hih) (by repeat' (first | exact rfl | exact trivial | exact Or.inr (Or.inl ⟨_, rfl⟩) | exact Or.inr ⟨_, rfl⟩ | exact Or.inl ⟨rfl, rfl⟩ | exact Or.inl rfl | refine Or.inr ⟨_, _, rfl, Nat.zero_le _, rfl, ?_⟩ | refine ⟨_, _, rfl, ?_, ?_⟩ | refine ⟨_, rfl, ?_⟩ | refine Or.inr (Or.inr (Or.inr ⟨_, _, rfl, ?_⟩)) | exact Or.inl rfl | refine Or.inr ?_)) rfl ?_
    refine ⟨by simp only [dPts_len, htl], ⟨by simp only [dPts_len, htl, maxLen, List.length_cons, List.length_nil]; omega, by simp only [dPts_len, htl, List.length_cons, List.length_nil]; omega⟩, ?_⟩
    refine ⟨kstripSt h ps ((stripP ps).take (e + 1)) (e + 1) (e + 1), (weak_mk ⟨_, rfl⟩ (by repeat' (first | exact rfl | exact we_rfl rfl | refine ⟨_, _, rfl, ?_, ?_⟩)) rfl rfl rfl (by repeat' (first | exact trivial | exact we_rfl rfl | exact we_int (nxt hlt (by omega)) | exact we_sl hsn rfl | refine ⟨⟨_, rfl, ?_⟩, ?_⟩))), ps.len - (e + 1), by omega, e + 1, rfl, by omega, rfl⟩
  · have hge : e = ps.len := by simp [dPts_len] at hL; omega
    subst hge
    have ha := Pts.take_all (stripP ps)
    rw [stripP_len] at ha
    rw [ha]
    refine ⟨_, ?_, rfl⟩
    rw [show stripT (.mk h ps) = .mk (stripHd h) (stripP ps) by simp only [stripT]]
    exact (by repeat' (first | exact rfl | exact trivial | exact Or.inr (Or.inl ⟨_, rfl⟩) | exact Or.inr ⟨_, rfl⟩ | exact Or.inl ⟨rfl, rfl⟩ | exact Or.inl rfl | refine Or.inr ⟨_, _, rfl, Nat.zero_le _, rfl, ?_⟩ | refine ⟨_, _, rfl, ?_, ?_⟩ | refine ⟨_, rfl, ?_⟩ | refine Or.inr (Or.inr (Or.inr ⟨_, _, rfl, ?_⟩)) | exact Or.inl rfl | refine Or.inr ?_))

theorem kstrip_any : ∀ k (t : Ty), t.wt ≤ k → t.wt ≤ 1099511627776 → EvP Tryz.prog 102 [.agg (dTy t)] (.agg (dTy (stripT t)))
  | 0, t, hk, _ => by have := t.wt_pos; omega
  | k + 1, .mk h ps, hk, hbig => by
    have hk' := hk
    simp only [Ty.wt, Hd.wt] at hk'
    exact kstrip_step k (kstrip_any k) h ps (by omega) hbig
/-- **kinds.Strip.** -/
theorem kstrip_spec (t : Ty) (hbig : t.wt ≤ 1099511627776) : EvP Tryz.prog 102 [.agg (dTy t)] (.agg (dTy (stripT t))) := kstrip_any t.wt t (Nat.le_refl _) hbig
end Go.Proofs.YtmphiikdhifhjaaGreat
set_option maxRecDepth 100000
namespace Go.Proofs.YtmphiikdhifhjaaGreat
open Go Go.RowKit Dv Tryz

/-- A schema. -/
structure Sch where
  levels : List Wd
  order : List (Wd × Wd)
  types : List (Wd × Ty)
  root : Ty

def dPr (p : Wd × Wd) : List DV := [.v (.string p.1.s), .v (.int .i64 p.1.a), .v (.string p.2.s), .v (.int .i64 p.2.a)]
def dPrs (l : List (Wd × Wd)) : List (List DV) := l.map dPr
def dNm (x : Wd × Ty) : List DV := .v (.string x.1.s) :: .v (.int .i64 x.1.a) :: dTy x.2
def dNms (l : List (Wd × Ty)) : List (List DV) := l.map dNm
def dSch (s : Sch) : List DV := .sl 2 (dWds s.levels) none :: .sl 4 (dPrs s.order) none :: .sl 11 (dNms s.types) none :: dTy s.root

def prsWt : List (Wd × Wd) → Nat
  | [] => 0
  | p :: r => p.1.wt + p.2.wt + prsWt r
def nmsWt : List (Wd × Ty) → Nat
  | [] => 0
  | p :: r => p.1.wt + p.2.wt + nmsWt r
def Sch.wt (s : Sch) : Nat := wdsWt s.levels + prsWt s.order + nmsWt s.types + s.root.wt

theorem dPrs_len (l : List (Wd × Wd)) : (dPrs l).length = l.length := by simp [dPrs]
theorem dNms_len (l : List (Wd × Ty)) : (dNms l).length = l.length := by simp [dNms]
theorem dPrs_get {l : List (Wd × Wd)} {j : Nat} {p : Wd × Wd} (h : l[j]? = some p) : (dPrs l)[j]? = some (dPr p) := by simp [dPrs, h]
theorem dNms_get {l : List (Wd × Ty)} {j : Nat} {p : Wd × Ty} (h : l[j]? = some p) : (dNms l)[j]? = some (dNm p) := by simp [dNms, h]
theorem prsWt_len : ∀ l : List (Wd × Wd), 128 * l.length ≤ prsWt l
  | [] => Nat.le_refl _
  | p :: r => by have := prsWt_len r; simp only [List.length_cons, prsWt, Wd.wt]; omega
theorem nmsWt_len : ∀ l : List (Wd × Ty), 256 * l.length ≤ nmsWt l
  | [] => Nat.le_refl _
  | p :: r => by have := nmsWt_len r; have := p.2.wt_pos; simp only [List.length_cons, nmsWt, Wd.wt]; omega
theorem prsWt_mem : ∀ {l : List (Wd × Wd)} {p : Wd × Wd}, p ∈ l → p.1.wt + p.2.wt ≤ prsWt l
  | x :: r, p, h => by
    rcases List.mem_cons.1 h with h | h
    · subst h; simp only [prsWt]; omega
    · have := prsWt_mem h; simp only [prsWt]; omega
theorem nmsWt_mem : ∀ {l : List (Wd × Ty)} {p : Wd × Ty}, p ∈ l → p.1.wt + p.2.wt ≤ nmsWt l
  | x :: r, p, h => by
    rcases List.mem_cons.1 h with h | h
    · subst h; simp only [nmsWt]; omega
    · have := nmsWt_mem h; simp only [nmsWt]; omega

def stripPr (p : Wd × Wd) : Wd × Wd := (stripWd p.1, stripWd p.2)
def stripNm (p : Wd × Ty) : Wd × Ty := (stripWd p.1, stripT p.2)
def stripS (s : Sch) : Sch := ⟨plainW s.levels, s.order.map stripPr, s.types.map stripNm, stripT s.root⟩

theorem map_snoc {α β : Type} (f : α → β) {l : List α} {e : Nat} {x : α} (h : l[e]? = some x) : (l.map f).take e ++ [f x] = (l.map f).take (e + 1) := by
  rw [List.take_add_one]; simp [h]
theorem dPrs_snoc {l : List (Wd × Wd)} {e : Nat} {x : Wd × Wd} (h : l[e]? = some x) : dPrs ((l.map stripPr).take e) ++ [dPr (stripPr x)] = dPrs ((l.map stripPr).take (e + 1)) := by
  rw [← map_snoc stripPr h]; simp [dPrs]
theorem dNms_snoc {l : List (Wd × Ty)} {e : Nat} {x : Wd × Ty} (h : l[e]? = some x) : dNms ((l.map stripNm).take e) ++ [dNm (stripNm x)] = dNms ((l.map stripNm).take (e + 1)) := by
  rw [← map_snoc stripNm h]; simp [dNms]
theorem dWds_snocP {l : List Wd} {e : Nat} {x : Wd} (h : l[e]? = some x) : dWds ((plainW l).take e) ++ [dWd (stripWd x)] = dWds ((plainW l).take (e + 1)) := by
  unfold plainW
  rw [← map_snoc (fun w : Wd => (⟨w.s, 0⟩ : Wd)) h]; simp [dWds, stripWd]

abbrev ustripS1 (s : Sch) (n e : Nat) : St :=
  ⟨[(1, ⟨[], .loc 0 0⟩), (2, ⟨[], .loc 1 0⟩), (3, ⟨[], .loc 2 0⟩), (11, ⟨[], .sl 2 (dWds s.levels) none⟩), (12, ⟨[], .v (.int .i64 (dWds s.levels).length)⟩), (13, ⟨[], .v (.int .i64 e)⟩)], [dSch s, [.v (.slice none 0 0), .v (.slice none 0 0), .v (.slice none 0 0), .v (.int .i64 0), .v (.int .i64 0), .v (.int .i64 0), .v (.int .i64 0), .v (.int .i64 0), .v (.slice none 0 0), .v (.slice none 0 0), .v (.string ByteArray.empty), .v (.int .i64 0)], [.sl 2 (dWds ((plainW s.levels).take e)) (some 0), .v (.slice none 0 0), .v (.slice none 0 0), .v (.int .i64 0), .v (.int .i64 0), .v (.int .i64 0), .v (.int .i64 0), .v (.int .i64 0), .v (.slice none 0 0), .v (.slice none 0 0), .v (.string ByteArray.empty), .v (.int .i64 0)]], [⟨n, 25, 2⟩]⟩
abbrev ustripS2 (s : Sch) (m n e : Nat) : St :=
  ⟨[(1, ⟨[], .loc 0 0⟩), (2, ⟨[], .loc 1 0⟩), (3, ⟨[], .loc 2 0⟩), (27, ⟨[], .sl 4 (dPrs s.order) none⟩), (28, ⟨[], .v (.int .i64 (dPrs s.order).length)⟩), (29, ⟨[], .v (.int .i64 e)⟩)], [dSch s, [.v (.slice none 0 0), .v (.slice none 0 0), .v (.slice none 0 0), .v (.int .i64 0), .v (.int .i64 0), .v (.int .i64 0), .v (.int .i64 0), .v (.int .i64 0), .v (.slice none 0 0), .v (.slice none 0 0), .v (.string ByteArray.empty), .v (.int .i64 0)], [.sl 2 (dWds (plainW s.levels)) (some 0), .sl 4 (dPrs ((s.order.map stripPr).take e)) (some 1), .v (.slice none 0 0), .v (.int .i64 0), .v (.int .i64 0), .v (.int .i64 0), .v (.int .i64 0), .v (.int .i64 0), .v (.slice none 0 0), .v (.slice none 0 0), .v (.string ByteArray.empty), .v (.int .i64 0)]], [⟨m, 25, 2⟩, ⟨n, 120, 4⟩]⟩
abbrev ustripS3 (s : Sch) (m q n e : Nat) : St :=
  ⟨[(1, ⟨[], .loc 0 0⟩), (2, ⟨[], .loc 1 0⟩), (3, ⟨[], .loc 2 0⟩), (49, ⟨[], .sl 11 (dNms s.types) none⟩), (50, ⟨[], .v (.int .i64 (dNms s.types).length)⟩), (51, ⟨[], .v (.int .i64 e)⟩)], [dSch s, [.v (.slice none 0 0), .v (.slice none 0 0), .v (.slice none 0 0), .v (.int .i64 0), .v (.int .i64 0), .v (.int .i64 0), .v (.int .i64 0), .v (.int .i64 0), .v (.slice none 0 0), .v (.slice none 0 0), .v (.string ByteArray.empty), .v (.int .i64 0)], [.sl 2 (dWds (plainW s.levels)) (some 0), .sl 4 (dPrs (s.order.map stripPr)) (some 1), .sl 11 (dNms ((s.types.map stripNm).take e)) (some 2), .v (.int .i64 0), .v (.int .i64 0), .v (.int .i64 0), .v (.int .i64 0), .v (.int .i64 0), .v (.slice none 0 0), .v (.slice none 0 0), .v (.string ByteArray.empty), .v (.int .i64 0)]], [⟨m, 25, 2⟩, ⟨q, 120, 4⟩, ⟨n, 118, 11⟩]⟩

theorem ustrip_spec (s : Sch) (hbig : s.wt ≤ 1099511627776) : EvP Tryz.prog 38 [.agg (dSch s)] (.agg (dSch (stripS s))) := by
  have h1 := wdsWt_len s.levels
  have h2 := prsWt_len s.order
  have h3 := nmsWt_len s.types
  simp only [Sch.wt] at hbig
  have hroot := kstrip_spec s.root (by omega)
  obtain ⟨levels, order, types, ⟨h, ps⟩⟩ := s
  simp only at h1 h2 h3 hbig hroot
  refine ev_go (P := Tryz.prog) tt tt_ok 5000 74 [.cell 2 42] Tryz.func38 rfl Tryz.ntmps38 rfl (Nat.le_of_ble_eq_true rfl) (fun E9 w9 hn9 hm9 => ?_)
  refine loop_i (fun j st => ∃ e : Nat, st = ustripS1 ⟨levels, order, types, .mk h ps⟩ e e ∧ e ≤ levels.length ∧ j = levels.length - e) levels.length (ustripS1 ⟨levels, order, types, .mk h ps⟩ 0 0) (weak_bt 3 ⟨0, 25, 2⟩ rfl rfl rfl (by repeat' (first | exact rfl | exact we_rfl rfl | exact we_tok (Nat.le_refl _) rfl | refine ⟨_, _, rfl, ?_, ?_⟩)) rfl rfl (by repeat' (first | exact trivial | exact we_rfl rfl | refine ⟨⟨_, rfl, ?_⟩, ?_⟩))) ⟨0, rfl, by omega, by omega⟩ ?_
  rintro j st ⟨e, rfl, he, rfl⟩
  refine br (fun hL => ?_) (fun hL => ?_)
  · have hlt : e < levels.length := by simpa [dWds_len] using hL
    obtain ⟨w, hw⟩ : ∃ w, levels[e]? = some w := ⟨_, List.getElem?_eq_getElem hlt⟩
    have hsn := dWds_snocP hw
    have htl : ((plainW levels).take e).length = e := by simp [plainW]; omega
    refine ⟨dWd w, ⟨by omega, dWds_get hw⟩, ?_⟩
    refine ⟨by simp only [dWds_len, htl], ⟨by simp only [dWds_len, htl, maxLen, List.length_cons, List.length_nil]; omega, by simp only [dWds_len, htl, List.length_cons, List.length_nil]; omega⟩, ?_⟩
    refine ⟨ustripS1 ⟨levels, order, types, .mk h ps⟩ (e + 1) (e + 1), (weak_b 3 rfl (by repeat' (first | exact rfl | exact we_rfl rfl | exact we_int (nxt hlt (by omega)) | exact we_sl hsn rfl | refine ⟨_, _, rfl, ?_, ?_⟩)) rfl rfl rfl (by repeat' (first | exact trivial | exact we_rfl rfl | exact we_int (nxt hlt (by omega)) | exact we_sl hsn rfl | refine ⟨⟨_, rfl, ?_⟩, ?_⟩))), levels.length - (e + 1), by omega, e + 1, rfl, by omega, rfl⟩
  have hge : e = levels.length := by simp [dWds_len] at hL; omega
  subst hge
  have ha : (plainW levels).take levels.length = plainW levels := List.take_of_length_le (by simp [plainW])
  refine loop_i (fun j st => ∃ e : Nat, st = ustripS2 ⟨levels, order, types, .mk h ps⟩ levels.length e e ∧ e ≤ order.length ∧ j = order.length - e) order.length (ustripS2 ⟨levels, order, types, .mk h ps⟩ levels.length 0 0) (weak_bt 3 ⟨0, 120, 4⟩ rfl rfl rfl (by repeat' (first | exact rfl | exact we_rfl rfl | exact we_sl (by rw [ha]) rfl | exact we_tok (Nat.le_refl _) rfl | refine ⟨_, _, rfl, ?_, ?_⟩)) rfl rfl (by repeat' (first | exact trivial | exact we_rfl rfl | exact we_sl (by rw [ha]) rfl | refine ⟨⟨_, rfl, ?_⟩, ?_⟩))) ⟨0, rfl, by omega, by omega⟩ ?_
  rintro j st ⟨e, rfl, he, rfl⟩
  refine br (fun hL => ?_) (fun hL => ?_)
  · have hlt : e < order.length := by simpa [dPrs_len] using hL
    obtain ⟨w, hw⟩ : ∃ w, order[e]? = some w := ⟨_, List.getElem?_eq_getElem hlt⟩
    have hsn := dPrs_snoc hw
    have htl : ((order.map stripPr).take e).length = e := by simp; omega
    refine ⟨dPr w, ⟨by omega, dPrs_get hw⟩, ?_⟩
    refine ⟨by simp only [dPrs_len, htl], ⟨by simp only [dPrs_len, htl, maxLen, List.length_cons, List.length_nil]; omega, by simp only [dPrs_len, htl, List.length_cons, List.length_nil]; omega⟩, ?_⟩
    refine ⟨ustripS2 ⟨levels, order, types, .mk h ps⟩ levels.length (e + 1) (e + 1), (weak_b 3 rfl (by repeat' (first | exact rfl | exact we_rfl rfl | exact we_int (nxt hlt (by omega)) | exact we_sl hsn rfl | refine ⟨_, _, rfl, ?_, ?_⟩)) rfl rfl rfl (by repeat' (first | exact trivial | exact we_rfl rfl | exact we_int (nxt hlt (by omega)) | exact we_sl hsn rfl | refine ⟨⟨_, rfl, ?_⟩, ?_⟩))), order.length - (e + 1), by omega, e + 1, rfl, by omega, rfl⟩
  have hge : e = order.length := by simp [dPrs_len] at hL; omega
  subst hge
  have hb : (order.map stripPr).take order.length = order.map stripPr := List.take_of_length_le (by simp)
  refine loop_i (fun j st => ∃ e : Nat, st = ustripS3 ⟨levels, order, types, .mk h ps⟩ levels.length order.length e e ∧ e ≤ types.length ∧ j = types.length - e) types.length (ustripS3 ⟨levels, order, types, .mk h ps⟩ levels.length order.length 0 0) (weak_bt 3 ⟨0, 118, 11⟩ rfl rfl rfl (by repeat' (first | exact rfl | exact we_rfl rfl | exact we_sl (by rw [hb]) rfl | exact we_tok (Nat.le_refl _) rfl | refine ⟨_, _, rfl, ?_, ?_⟩)) rfl rfl (by repeat' (first | exact trivial | exact we_rfl rfl | exact we_sl (by rw [hb]) rfl | refine ⟨⟨_, rfl, ?_⟩, ?_⟩))) ⟨0, rfl, by omega, by omega⟩ ?_
  rintro j st ⟨e, rfl, he, rfl⟩
  refine br (fun hL => ?_) (fun hL => ?_)
  · have hlt : e < types.length := by simpa [dNms_len] using hL
    obtain ⟨w, hw⟩ : ∃ w, types[e]? = some w := ⟨_, List.getElem?_eq_getElem hlt⟩
    have hsn := dNms_snoc hw
    have hwt := nmsWt_mem (List.mem_of_getElem? hw)
    have htl : ((types.map stripNm).take e).length = e := by simp; omega
    have hst := kstrip_spec w.2 (by omega)
    obtain ⟨w, u, us⟩ := w
    refine ⟨dNm (w, .mk u us), ⟨by omega, dNms_get hw⟩, ?_⟩
    rw [show stripT (.mk u us) = .mk (stripHd u) (stripP us) by simp only [stripT]] at hst
    have hsn' : dNms ((types.map stripNm).take e) ++ [dNm (stripWd w, .mk (stripHd u) (stripP us))] = dNms ((types.map stripNm).take (e + 1)) := by
      rw [← hsn]; simp only [stripNm, stripT]
    refine drawG_s mo (by decide +kernel) ?_
    refine callD_p (enters_of Tryz.func102 (by decide +kernel) rfl) (hst) (by repeat' (first | exact rfl | exact trivial | exact Or.inr (Or.inl ⟨_, rfl⟩) | exact Or.inr ⟨_, rfl⟩ | exact Or.inl ⟨rfl, rfl⟩ | exact Or.inl rfl | refine Or.inr ⟨_, _, rfl, Nat.zero_le _, rfl, ?_⟩ | refine ⟨_, _, rfl, ?_, ?_⟩ | refine ⟨_, rfl, ?_⟩ | refine Or.inr (Or.inr (Or.inr ⟨_, _, rfl, ?_⟩)) | exact Or.inl rfl | refine Or.inr ?_)) rfl ?_
    refine ⟨by simp only [dNms_len, htl], ⟨by simp only [dNms_len, htl, maxLen, List.length_cons, List.length_nil]; omega, by simp only [dNms_len, htl, List.length_cons, List.length_nil]; omega⟩, ?_⟩
    refine ⟨ustripS3 ⟨levels, order, types, .mk h ps⟩ levels.length order.length (e + 1) (e + 1), (weak_b 3 rfl (by repeat' (first | exact rfl | exact we_rfl rfl | exact we_int (nxt hlt (by omega)) | exact we_sl hsn' rfl | refine ⟨_, _, rfl, ?_, ?_⟩)) rfl rfl rfl (by repeat' (first | exact trivial | exact we_rfl rfl | exact we_int (nxt hlt (by omega)) | exact we_sl hsn' rfl | refine ⟨⟨_, rfl, ?_⟩, ?_⟩))), types.length - (e + 1), by omega, e + 1, rfl, by omega, rfl⟩
  have hge : e = types.length := by simp [dNms_len] at hL; omega
  subst hge
  have hc : (types.map stripNm).take types.length = types.map stripNm := List.take_of_length_le (by simp)
  rw [show stripT (.mk h ps) = .mk (stripHd h) (stripP ps) by simp only [stripT]] at hroot
  refine call_p (enters_of Tryz.func102 (by decide +kernel) rfl) (hroot) (by repeat' (first | exact rfl | exact trivial | exact Or.inr (Or.inl ⟨_, rfl⟩) | exact Or.inr ⟨_, rfl⟩ | exact Or.inl ⟨rfl, rfl⟩ | exact Or.inl rfl | refine Or.inr ⟨_, _, rfl, Nat.zero_le _, rfl, ?_⟩ | refine ⟨_, _, rfl, ?_, ?_⟩ | refine ⟨_, rfl, ?_⟩ | refine Or.inr (Or.inr (Or.inr ⟨_, _, rfl, ?_⟩)) | exact Or.inl rfl | refine Or.inr ?_)) rfl ?_
  refine ⟨_, ?_, rfl⟩
  rw [show stripS ⟨levels, order, types, .mk h ps⟩ = ⟨plainW levels, order.map stripPr, types.map stripNm, .mk (stripHd h) (stripP ps)⟩ by simp only [stripS, stripT]]
  rw [hc]
  exact (by repeat' (first | exact rfl | exact trivial | exact Or.inr (Or.inl ⟨_, rfl⟩) | exact Or.inr ⟨_, rfl⟩ | exact Or.inl ⟨rfl, rfl⟩ | exact Or.inl rfl | refine Or.inr ⟨_, _, rfl, Nat.zero_le _, rfl, ?_⟩ | refine ⟨_, _, rfl, ?_, ?_⟩ | refine ⟨_, rfl, ?_⟩ | refine Or.inr (Or.inr (Or.inr ⟨_, _, rfl, ?_⟩)) | exact Or.inl rfl | refine Or.inr ?_))
end Go.Proofs.YtmphiikdhifhjaaGreat
set_option maxRecDepth 100000
namespace Go.Proofs.YtmphiikdhifhjaaGreat
open Go Go.RowKit Dv Tryz

/-- All numbers of a schema's types are ints. -/
def rngS (s : Sch) : Prop := (∀ x ∈ s.types, rngT x.2) ∧ rngT s.root

theorem cells_pair : Tryz.prog.cellsOf 120 = 4 := by kernel_rfl
theorem cells_named : Tryz.prog.cellsOf 118 = 11 := by kernel_rfl

theorem typ_pr {n : Nat} {ds : List DV} (h : Typ Tryz.prog n 120 ds) : ∃ p : Wd × Wd, ds = dPr p ∧ p.1.wt + p.2.wt ≤ wgL ds := by
  obtain ⟨m, _, hf⟩ := typ_st Tryz.underlying120 h
  obtain ⟨a, b, rfl, h1, c, d, rfl, h2, rfl⟩ := hf
  obtain ⟨x, rfl, w1⟩ := typ_wd h1
  obtain ⟨y, rfl, w2⟩ := typ_wd h2
  exact ⟨(x, y), rfl, by simp only [wgL_append, wgL]; omega⟩
theorem typ_nm {n : Nat} {ds : List DV} (h : Typ Tryz.prog n 118 ds) : ∃ p : Wd × Ty, ds = dNm p ∧ rngT p.2 ∧ p.1.wt + p.2.wt ≤ wgL ds := by
  obtain ⟨m, _, hf⟩ := typ_st Tryz.underlying118 h
  obtain ⟨a, b, rfl, h1, c, d, rfl, h2, rfl⟩ := hf
  obtain ⟨x, rfl, w1⟩ := typ_wd h1
  obtain ⟨y, rfl, r2, w2⟩ := typ_ty _ _ h2
  exact ⟨(x, y), by simp [dNm, dWd], r2, by simp only [wgL_append, wgL]; omega⟩
theorem es_prs : ∀ {m : Nat} {es : List (List DV)}, (∀ cs ∈ es, Typ Tryz.prog m 120 cs) → ∃ l : List (Wd × Wd), es = dPrs l ∧ prsWt l ≤ wgEs es
  | m, [], h => ⟨[], rfl, by simp [prsWt, wgEs]⟩
  | m, cs :: r, h => by
    obtain ⟨w, rfl, hw⟩ := typ_pr (h cs (by simp))
    obtain ⟨l, rfl, hl⟩ := es_prs (m := m) (es := r) (fun c hc => h c (List.mem_cons_of_mem _ hc))
    exact ⟨w :: l, rfl, by simp only [prsWt, wgEs]; omega⟩
theorem es_nms : ∀ {m : Nat} {es : List (List DV)}, (∀ cs ∈ es, Typ Tryz.prog m 118 cs) → ∃ l : List (Wd × Ty), es = dNms l ∧ (∀ x ∈ l, rngT x.2) ∧ nmsWt l ≤ wgEs es
  | m, [], h => ⟨[], rfl, by simp, by simp [nmsWt, wgEs]⟩
  | m, cs :: r, h => by
    obtain ⟨w, rfl, hr, hw⟩ := typ_nm (h cs (by simp))
    obtain ⟨l, rfl, hlr, hl⟩ := es_nms (m := m) (es := r) (fun c hc => h c (List.mem_cons_of_mem _ hc))
    refine ⟨w :: l, rfl, fun x hx => ?_, by simp only [nmsWt, wgEs]; omega⟩
    rcases List.mem_cons.1 hx with rfl | hx
    · exact hr
    · exact hlr x hx

theorem typ_sch {n : Nat} {ds : List DV} (h : Typ Tryz.prog n 42 ds) : ∃ s : Sch, ds = dSch s ∧ rngS s ∧ s.wt ≤ wgL ds := by
  obtain ⟨m, _, hf⟩ := typ_st Tryz.underlying42 h
  obtain ⟨a1, b1, rfl, h1, a2, b2, rfl, h2, a3, b3, rfl, h3, a4, b4, rfl, h4, rfl⟩ := hf
  obtain ⟨l1, rfl, w1⟩ := typ_wds h1
  obtain ⟨m2, es2, _, rfl, he2⟩ := typ_sl Tryz.underlying39 h2
  obtain ⟨l2, rfl, w2⟩ := es_prs he2
  obtain ⟨m3, es3, _, rfl, he3⟩ := typ_sl Tryz.underlying40 h3
  obtain ⟨l3, rfl, r3, w3⟩ := es_nms he3
  obtain ⟨t, rfl, r4, w4⟩ := typ_ty _ _ h4
  rw [cells_pair, cells_named]
  refine ⟨⟨l1, l2, l3, t⟩, by simp [dSch], ⟨r3, r4⟩, ?_⟩
  simp only [Sch.wt, wgL_append, wgL, wgD] at *
  omega
end Go.Proofs.YtmphiikdhifhjaaGreat
namespace Go.Proofs.YtmphiikdhifhjaaGreat
open Go Go.RowKit Dv
def tySS : List TypeId := 42 :: 39 :: 120 :: 40 :: 118 :: tyS
theorem tySS_ok : ∀ t ∈ tySS, flatOK Tryz.prog tySS t = true := by
  have h : (tySS.all fun t => flatOK Tryz.prog tySS t) = true := by kernel_rfl
  exact fun t ht => List.all_eq_true.1 h t ht
end Go.Proofs.YtmphiikdhifhjaaGreat
namespace Go.Proofs.YtmphiikdhifhjaaGreat
open Go Go.RowKit Dv
set_option maxRecDepth 100000
noncomputable abbrev PP : Program := Tryz.pinned.checked.prog
def dft : OpenClaim := { program := "", sum := "", func := "", spec := "" }
theorem and_ok {a b : Bool} (ha : a = true) (hb : b = true) : (a && b) = true := by rw [ha, hb]; rfl
theorem g_laid : laidOutB PP = true := laid_out
theorem g_maps : mapsRowed PP = true := by kernel_rfl
theorem g_stops : (PP.stops == []) = true := by kernel_rfl
theorem g_knobs : (PP.stopKnobs == []) = true := by kernel_rfl
theorem g_heard : PP.stopsHeard = true := by kernel_rfl
theorem g_enter : PP.mayEnter = true := by kernel_rfl
theorem g_lifts : (dft.lifted == PP.liftsFinal) = true := by kernel_rfl
theorem g_keys : (dft.plainKeys == PP.plainKeys) = true := by kernel_rfl
theorem g_make : (PP.make == some dft.make) = true := by kernel_rfl
end Go.Proofs.YtmphiikdhifhjaaGreat
set_option maxRecDepth 100000
namespace Go.Proofs.YtmphiikdhifhjaaGreat
open Go Go.RowKit Go.Lib Dv Tryz

theorem run_append_own_string' {P : Program} (w : World) (t u ty e : TypeId) (i : TypeInfo) (ht : P.underlying t = some (.slice e)) (hu : P.underlying u = some .string) (hi : P.info? e = some i) (hz : i.zero = some (.int .u8 0))
    (hsize : i.size = 1) (hby : i.bytes = 1) (v : Value) (n : Nat) (xs : List Value) (hown : w.ownsRow 0 e 1 v n xs) (s : ByteArray) (h63 : n + s.size ≤ maxLen) (hbytes : n + s.size ≤ 140737488355328) (hs : 0 < s.size) :
    ∃ g cap w', (Builtin.append_ #[t, u] ty #[v, .string s]).run P w = .ok (.slice (some ⟨g, 0, none⟩) (n + s.size) cap) w' ∧ w'.ownsRow 0 e 1 (.slice (some ⟨g, 0, none⟩) (n + s.size) cap) (n + s.size) (xs ++ strCells s) ∧ w.grownBy w' v.ownBlock ∧
      ((v.ownBlock = some g) ∨ (w.heap.size ≤ g ∧ ∀ k, k < w.heap.size → w'.heap[k]? = w.heap[k]?)) := by
  obtain ⟨v', w', hr, h2, h3, h4⟩ := Lib.run_append_own_string (P := P) w 0 t u ty e i ht hu hi hz hsize hby v n xs hown s h63 hbytes (Nat.zero_le _)
  have hsmall : n + s.size ≤ 9223372036854775807 := by simp only [maxLen] at h63; omega
  have hxl : xs.length = n := by simpa using hown.1
  rcases hown.2 with ⟨rfl, rfl⟩ | ⟨g, cap, cur, rfl, hbg, hg, hnc, hcm, hcs, htake⟩
  · have hr2 := run_append_nil_string (P := P) w t u ty e i (.int .u8 0) ht hu hi hz s hs (by omega) (by rw [hby]; omega)
    rw [hr2] at hr
    injection hr with e1 e2
    subst e1
    simp only [Nat.zero_add] at *
    exact ⟨_, _, w', by rw [hr2, e2], h2, h3, .inr ⟨Nat.le_refl _, fun k hk => by rw [← e2]; exact Below.heap_alloc w.drew _ k hk⟩⟩
  · by_cases hroom : n + s.size ≤ cap
    · have hcs' : cur.size = cap := by simpa using hcs
      have hr2 := Lib.run_append_room_string (P := P) w t u ty e i ht hu hi hsize g n cap cur hg s hroom (by omega)
      rw [hr2] at hr
      injection hr with e1 e2
      subst e1
      exact ⟨_, _, w', by rw [hr2, e2], h2, h3, .inl rfl⟩
    · have holds : ∀ j u, xs[j]? = some u → w.cell? ((⟨g, 0, none⟩ : Addr).add j) = some u := hown.cells (g := g) rfl
      have hr2 := Lib.run_append_grow_string (P := P) w t u ty e i (.int .u8 0) ht hu hi hz ⟨g, 0, none⟩ n cap xs (by rw [hsize]; simpa using hxl) holds s (by omega) (by omega) (by rw [hby]; exact growslice_fits (by omega) (by omega))
      rw [hr2] at hr
      injection hr with e1 e2
      subst e1
      exact ⟨_, _, w', by rw [hr2, e2], h2, h3, .inr ⟨Nat.le_refl _, fun k hk => by rw [← e2]; exact Below.heap_alloc w.drew _ k hk⟩⟩

theorem setBlk_self {w : World} {b : Nat} {o : Obj} (h : w.heap[b]? = some o) : World.setBlk w b o = w := by
  obtain ⟨hb, hg⟩ := Array.getElem?_eq_some_iff.1 h
  have e : w.heap.setIfInBounds b o = w.heap := by
    apply Array.ext
    · simp
    · intro i h1 h2
      by_cases hi : b = i
      · subst hi; simp [hg]
      · rw [Array.getElem_setIfInBounds_ne (by simpa using h1) hi]
  show { w with heap := w.heap.setIfInBounds b o } = w
  rw [e]

/-- The Builder, its address set. -/
abbrev bldW (w : World) (b : Nat) (v : Value) : World := World.setBlk w b (.cells #[.pointer (some ⟨b, 0, none⟩), v] 126 (0, 0))

theorem copy_mem (b : Nat) (p v : Value) (w : World) (hp : p = .pointer none ∨ p = .pointer (some ⟨b, 0, none⟩)) (hbk : w.heap[b]? = some (.cells #[p, v] 126 (0, 0))) :
    Calls Tryz.prog 132 #[.pointer (some ⟨b, 0, none⟩)] w fun e w' => e = .returned (.tuple #[]) ∧ w' = bldW w b v := by
  rcases hp with rfl | rfl
  · refine (Any.Builder_copyCheck_fresh { Tryz.lays156 with } Tryz.Builder_Extra_156.toX72 b w (by rw [Lib.cell_of_heap hbk]; rfl) (by simp [World.shape?, hbk, Tryz.lays156_ren]) (by simp [World.frozen?, hbk])).mono ?_
    rintro e w' ⟨rfl, rfl⟩
    exact ⟨rfl, by rw [setCell_setBlk hbk]; rfl⟩
  · refine (Any.Builder_copyCheck_used { Tryz.lays156 with } Tryz.Builder_Extra_156.toX72 b w (by rw [Lib.cell_of_heap hbk]; rfl)).mono ?_
    rintro e w' ⟨rfl, rfl⟩
    exact ⟨rfl, (setBlk_self hbk).symm⟩

theorem wpList_append_str' {P : Program} {w : World} {ops : Array Oper} {rest : List Oper} {o : Oper} {a : Act} {Q : Exit → Act → World → Prop} (hgd : o.guard = none) (sl x : Operand) (t u : TypeId)
    (ho : o.op = .call { callee := .builtin .append, args := #[sl, x], argTypes := #[t, u] })
    (e : TypeId) (i : TypeInfo) (ht : P.underlying t = some (.slice e)) (hu : P.underlying u = some .string) (hi : P.info? e = some i) (hz : i.zero = some (.int .u8 0))
    (hsize : i.size = 1) (hby : i.bytes = 1)
    (v : Value) (n : Nat) (xs : List Value) (hs : a.eval sl = v) (hown : w.ownsRow 0 e 1 v n xs) (s : ByteArray) (hx : a.eval x = .string s)
    (h63 : n + s.size ≤ maxLen) (hbytes : n + s.size ≤ 140737488355328) (hpos : 0 < s.size)
    (h : ∀ g cap w', w'.ownsRow 0 e 1 (.slice (some ⟨g, 0, none⟩) (n + s.size) cap) (n + s.size) (xs ++ strCells s) → w.grownBy w' v.ownBlock → ((v.ownBlock = some g) ∨ (w.heap.size ≤ g ∧ ∀ k, k < w.heap.size → w'.heap[k]? = w.heap[k]?)) →
      wpList P ops Q rest (a.put o.dst (.slice (some ⟨g, 0, none⟩) (n + s.size) cap)) w') : wpList P ops Q (o :: rest) a w := by
  refine wpList_plain hgd fun K hK => ?_
  obtain ⟨g, cap, w', hr, h2, h3, h4⟩ := run_append_own_string' (P := P) w t u o.type e i ht hu hi hz hsize hby v n xs hown s h63 hbytes hpos
  unfold Oper.wp execOp
  simp only [ho, resolve, invoke, builtin, Sem.run_bind, Sem.run_pure, Result.andThen_ok, List.map_toArray, List.map_cons, List.map_nil, hs, hx, hr]
  exact hK _ _ (h g cap w' h2 h3 h4)

/-- What WriteString leaves behind. -/
def BwPost (w : World) (b : Nat) (v : Value) (n : Nat) (xs : List Value) (s : ByteArray) (e : Ending) (w' : World) : Prop :=
  e = .returned (.tuple #[.int .i64 s.size, .nilIface]) ∧ ∃ g cap w2, w2.ownsRow 0 5 1 (.slice (some ⟨g, 0, none⟩) (n + s.size) cap) (n + s.size) (xs ++ strCells s) ∧ (bldW w b v).grownBy w2 v.ownBlock ∧
    ((v.ownBlock = some g) ∨ ((bldW w b v).heap.size ≤ g ∧ ∀ k, k < (bldW w b v).heap.size → w2.heap[k]? = (bldW w b v).heap[k]?)) ∧
    w' = World.setBlk w2 b (.cells #[.pointer (some ⟨b, 0, none⟩), .slice (some ⟨g, 0, none⟩) (n + s.size) cap] 126 (0, 0))

theorem own_set {w : World} {b e n : Nat} {v : Value} {xs : List Value} {o : Obj} (h : w.ownsRow 0 e 1 v n xs) (hne : v.ownBlock ≠ some b) : (World.setBlk w b o).ownsRow 0 e 1 v n xs := by
  refine ⟨h.1, ?_⟩
  rcases h.2 with h | ⟨g, cap, cur, rfl, h1, h2, h3⟩
  · exact .inl h
  · refine .inr ⟨g, cap, cur, rfl, h1, ?_, h3⟩
    rw [setBlk_other]
    · exact h2
    · rintro rfl
      exact hne rfl

set_option maxHeartbeats 2000000 in
theorem bw_mem (b : Nat) (p v : Value) (n : Nat) (xs : List Value) (s : ByteArray) (w : World) (hp : p = .pointer none ∨ p = .pointer (some ⟨b, 0, none⟩)) (hbk : w.heap[b]? = some (.cells #[p, v] 126 (0, 0)))
    (hown : w.ownsRow 0 5 1 v n xs) (hne : v.ownBlock ≠ some b) (hs : 0 < s.size) (hlen : n + s.size ≤ 140737488355328) :
    Calls Tryz.prog 77 #[.pointer (some ⟨b, 0, none⟩), .string s] w (BwPost w b v n xs s) := by
  obtain ⟨i0, hi, hz0, hz1, hz2⟩ := info_parts Tryz.Builder_Extra_156.infoByte
  go_enter Tryz.func77, Tryz.ntmps77
  go_wp2_with (go_at_call 132; refine (copy_mem b p v _ hp hbk).mono ?_)
  rintro e w1 ⟨rfl, rfl⟩
  have hb1 : (bldW w b v).heap[b]? = some (.cells #[.pointer (some ⟨b, 0, none⟩), v] 126 (0, 0)) := setBlk_same hbk
  have hown1 : (bldW w b v).ownsRow 0 5 1 v n xs := own_set hown hne
  have c0 : (bldW w b v).cell? ⟨b, 0, none⟩ = some (.pointer (some ⟨b, 0, none⟩)) := by rw [Lib.cell_of_heap hb1]; rfl
  have c1 : (bldW w b v).cell? ⟨b, 1, none⟩ = some v := by rw [Lib.cell_of_heap hb1]; rfl
  have hlt : b < (bldW w b v).heap.size := lt_of_blk hb1
  obtain ⟨W1, hW1⟩ : ∃ W1, W1 = bldW w b v := ⟨_, rfl⟩
  rw [← hW1] at hb1 hown1 c0 c1 hlt ⊢
  have HW := Lib.hid hW1
  clear hW1
  go_wp2_with (at_builtin; refine wpList_append_str' rfl _ _ 124 9 rfl 5 i0 Tryz.underlying124 Tryz.underlying9 hi hz0 hz1 hz2 _ _ _ rfl hown1 s rfl ?c3 ?c4 hs ?_)
  case c3 => unfold maxLen; omega
  case c4 => omega
  intro g cap w2 hown' hgrow hdi
  have hb2 : w2.heap[b]? = some (.cells #[.pointer (some ⟨b, 0, none⟩), v] 126 (0, 0)) := by
    rw [hgrow.block b hlt (fun e => hne e.symm)]
    exact hb1
  have d0 : w2.cell? ⟨b, 0, none⟩ = some (.pointer (some ⟨b, 0, none⟩)) := by rw [Lib.cell_of_heap hb2]; rfl
  have d1 : w2.cell? ⟨b, 1, none⟩ = some v := by rw [Lib.cell_of_heap hb2]; rfl
  have f1 : w2.frozen? ⟨b, 1, none⟩ = false := Lib.frozen_of_heap hb2 1
  go_wp2
  go_ret2
  refine ⟨rfl, g, cap, w2, hown', by rw [← HW.out]; exact hgrow, by rw [← HW.out]; exact hdi, ?_⟩
  rw [setCell_setBlk hb2]
  rfl

set_option maxHeartbeats 1000000 in
/-- String, of a Builder that holds something: its bytes are frozen, nothing else turns. -/
theorem bs_mem (b g cap : Nat) (p : Value) (l : List UInt8) (cur : Array Value) (w : World) (h0 : l ≠ []) (hbk : w.heap[b]? = some (.cells #[p, .slice (some ⟨g, 0, none⟩) l.length cap] 126 (0, 0)))
    (hg : w.heap[g]? = some (.cells cur 5 (0, 0))) (hnc : l.length ≤ cap) (hcm : cap ≤ maxLen) (hcs : cur.size = cap * 1) (htake : cur.toList.take (l.length * 1) = Lib.byteCells l) :
    Calls Tryz.prog 82 #[.pointer (some ⟨b, 0, none⟩)] w fun e w' => e = .returned (.string ⟨l.toArray⟩) ∧ w' = w.drew.freeze ⟨g, 0, none⟩ l.length := by
  have hl0 : l.length ≠ 0 := by simpa using h0
  have hown : w.ownsRow 0 5 1 (.slice (some ⟨g, 0, none⟩) l.length cap) l.length (Lib.byteCells l) := ⟨by rw [Lib.byteCells_length, Nat.mul_one], .inr ⟨g, cap, cur, rfl, Nat.zero_le _, hg, hnc, hcm, hcs, htake⟩⟩
  have c1 : w.drew.cell? ⟨b, 1, none⟩ = some (.slice (some ⟨g, 0, none⟩) l.length cap) := by
    have : w.drew.heap[b]? = some (.cells #[p, .slice (some ⟨g, 0, none⟩) l.length cap] 126 (0, 0)) := hbk
    rw [Lib.cell_of_heap this]; rfl
  have hSD : (Builtin.unsafeSliceData_ #[124] 198 #[.slice (some ⟨g, 0, none⟩) l.length cap]).run Tryz.prog w.drew = .ok (.pointer (some ⟨g, 0, none⟩)) w.drew :=
    Lib.run_unsafeSliceData_row _ _ _ _ _ _ (by omega)
  have hUS : (Builtin.unsafeString_ #[198, 3] 9 #[.pointer (some ⟨g, 0, none⟩), .int .i64 l.length]).run Tryz.prog w.drew = .ok (.string ⟨l.toArray⟩) (w.drew.freeze ⟨g, 0, none⟩ l.length) := by
    refine Lib.run_unsafeString_row w.drew 198 3 9 5 Tryz.underlying198 (by kernel_rfl) g cur.size (by have hg' : w.drew.heap[g]? = some (.cells cur 5 (0, 0)) := hg; simp [World.shape?, hg']) l h0 (by omega) (by unfold maxLen at hcm; omega) ?_
    intro j x hx
    have := hown.cells (g := g) rfl j (.int .u8 x.toNat) (by simp [Lib.byteCells, hx])
    exact this
  clear hown htake hcs hg
  have mixed := mo
  go_enter Tryz.func82, Tryz.ntmps82
  go_wp2
  go_region_o
  all_goals (go_wp2; go_ret; exact ⟨rfl, rfl⟩)
end Go.Proofs.YtmphiikdhifhjaaGreat
set_option maxRecDepth 100000
namespace Go.Proofs.YtmphiikdhifhjaaGreat
open Go Go.RowKit Dv Tryz

/-- Bytes as the elements of a slice. -/
def bD (l : List UInt8) : List (List DV) := l.map fun c => [DV.v (.int .u8 c.toNat)]
theorem bD_len (l : List UInt8) : (bD l).length = l.length := by simp [bD]
theorem bD_append (l m : List UInt8) : bD (l ++ m) = bD l ++ bD m := by simp [bD]

theorem bD_rvc {E : En} : ∀ l : List UInt8, RvC E (bD l).flatten (Lib.byteCells l)
  | [] => ⟨rvL_nil _, by simp [Lib.byteCells]⟩
  | c :: r => by
    obtain ⟨h1, h2⟩ := bD_rvc (E := E) r
    refine ⟨?_, fun v hv => ?_⟩
    · simp only [bD, List.map_cons, List.flatten_cons, List.cons_append, List.nil_append, Lib.byteCells]
      exact rvL_cons (by unfold Rv; exact ⟨rfl, rfl⟩) h1
    · simp only [Lib.byteCells, List.map_cons, List.mem_cons] at hv
      rcases hv with rfl | hv
      · rfl
      · exact h2 v hv
theorem bD_vals {E : En} : ∀ {l : List UInt8} {arr : List Value}, RvL E (bD l).flatten arr → arr = Lib.byteCells l
  | [], arr, h => by simpa [bD, RvL, Lib.byteCells] using h
  | c :: r, arr, h => by
    simp only [bD, List.map_cons, List.flatten_cons, List.cons_append, List.nil_append, RvL] at h
    obtain ⟨v, s, rfl, h1, h2⟩ := h
    unfold Rv at h1
    rw [h1.1, bD_vals (l := r) h2]
    rfl
theorem strCells_eq (s : ByteArray) : Lib.strCells s = Lib.byteCells s.data.toList := rfl

/-- What is known of the row of a Builder that holds something. -/
theorem row_of {X : Ctx} {E : En} {st : St} {a : Act} {w : World} (h : Rel X E st a w) {kt : Nat} {l : List UInt8} {cv : Value} (hl : l ≠ []) (htk : st.tk[kt]? = some ⟨l.length, 5, 1⟩) (hv : Rv E (.sl 1 (bD l) (some kt)) cv) :
    ∃ g cap cur, cv = .slice (some ⟨g, 0, none⟩) l.length cap ∧ w.heap[g]? = some (.cells cur 5 (0, 0)) ∧ l.length ≤ cap ∧ cap ≤ maxLen ∧ cur.size = cap * 1 ∧ cur.toList.take (l.length * 1) = Lib.byteCells l ∧ g ∉ E.β ∧ E.τ[kt]? = some cv := by
  have hne : bD l ≠ [] := by
    intro hc
    have := bD_len l
    rw [hc] at this
    exact hl (List.eq_nil_of_length_eq_zero this.symm)
  have hpos : 0 < l.length := List.length_pos_iff.2 hl
  unfold Rv at hv
  obtain ⟨bs, ns, caps, rfl, ⟨rfl, hsc⟩, hsr, hstk⟩ := hv
  rw [bD_len] at hsc
  obtain ⟨q, hq, _, hτ⟩ := hstk kt rfl
  rw [h.tk, htk] at hq
  simp only [Option.some.injEq] at hq
  subst hq
  have hy := hτ (bD_len l)
  rcases h.env.tks kt _ _ (by rw [h.tk]; exact htk) hy with ⟨hv0, hn0⟩ | ⟨g, cap, cur, hv0, hw0, hs0, hnc, hcm, hb0, hc0⟩
  · simp only at hn0; omega
  · injection hv0 with i1 i2 i3
    subst i1 i3
    refine ⟨g, caps, cur, by rw [bD_len], hw0, hnc, hcm, hs0, ?_, hb0, by rw [hy]⟩
    obtain ⟨_, hess⟩ := hsr hne
    obtain ⟨arr0, hb1, hb2, hb3⟩ := hess.vals
    have ha := bD_vals hb1.1
    subst ha
    apply List.ext_getElem?
    intro j
    rw [bD_len] at hb2
    rcases Nat.lt_or_ge j (Lib.byteCells l).length with hj | hj
    · have h5 := h.env.sub _ _ (hb3 j _ (List.getElem?_eq_getElem hj))
      simp only [ab, ao, Nat.zero_add] at h5
      rw [cell_blk hw0] at h5
      rw [List.getElem?_take, if_pos (by omega), List.getElem?_eq_getElem hj]
      simpa using h5
    · rw [List.getElem?_eq_none (l := Lib.byteCells l) hj, List.getElem?_take, if_neg (by omega)]

/-- **WriteString**, of a text that is not empty, into a Builder of one's own. -/
theorem call_bw {X : Ctx} {st : St} {k : List It} (hP : X.P = Tryz.prog) {i kt d : Nat} {p c : DV} {l : List UInt8} {s : ByteArray} {tk' : List TkE} (hbt : (i, 126) ∈ X.bt) (hbx : st.bx[i]? = some [p, c])
    (hp : p = .v (.pointer none) ∨ p = .loc i 0)
    (hc : (c = .v (.slice none 0 0) ∧ l = [] ∧ kt = st.tk.length ∧ tk' = st.tk ++ [⟨s.size, 5, 1⟩]) ∨ (c = .sl 1 (bD l) (some kt) ∧ l ≠ [] ∧ st.tk[kt]? = some ⟨l.length, 5, 1⟩ ∧ tk' = st.tk.set kt ⟨l.length + s.size, 5, 1⟩))
    (hs : 0 < s.size) (hlen : l.length + s.size ≤ 140737488355328) (hd : okD X.nt st.sl (some d) = true)
    (hk : go X 4000 k ⟨(d, ⟨[], .tup [.v (.int .i64 s.size), .v .nilIface]⟩) :: st.sl, st.bx.set i [.loc i 0, .sl 1 (bD (l ++ s.data.toList)) (some kt)], tk'⟩)
    (hst : X.still = false := by exact rfl) : CallG X 77 [.loc i 0, .v (.string s)] (some d) k st := by
  refine ⟨?_, hst, fun E a w vs h hv => ?_⟩
  · rw [hP]; exact (enters_of Tryz.func77 (by decide +kernel) rfl)
  rw [hP]
  simp only [RvL] at hv
  obtain ⟨v1, vr, rfl, h1, v2, vr2, rfl, h2, rfl⟩ := hv
  have h2 := rv_v_eq h2
  subst h2
  unfold Rv at h1
  obtain ⟨b, hb, rfl⟩ := h1
  obtain ⟨b', ty, arr, hb', hw, hcc⟩ := h.env.bxs i _ hbx
  rw [hb] at hb'
  simp only [Option.some.injEq] at hb'
  subst hb'
  obtain ⟨cs0, hcs0⟩ := h.bt _ hbt b hb
  rw [hw] at hcs0
  simp only [Option.some.injEq, Obj.cells.injEq] at hcs0
  have hty : ty = 126 := hcs0.2.1
  subst hty
  obtain ⟨hr, ho⟩ := hcc
  simp only [RvL] at hr
  obtain ⟨pv, r1, rfl, hpv, cv, r2, rfl, hcv, rfl⟩ := hr
  have hpv' : pv = .pointer none ∨ pv = .pointer (some ⟨b, 0, none⟩) := by
    rcases hp with rfl | rfl
    · exact .inl (rv_v_eq hpv)
    · unfold Rv at hpv
      obtain ⟨b2, hb2, rfl⟩ := hpv
      rw [hb] at hb2
      simp only [Option.some.injEq] at hb2
      subst hb2
      exact .inr rfl
  have hbm : b ∈ E.β := List.mem_of_getElem? hb
  have hlen' : st.tk.length = E.tk.length := by rw [h.tk]
  -- what the Builder holds, in memory
  have key : ∃ xs : List Value, xs = Lib.byteCells l ∧ w.ownsRow 0 5 1 cv l.length xs ∧ cv.ownBlock ≠ some b ∧
      ((∃ q, E.tk[kt]? = some q ∧ E.τ[kt]? = some cv ∧ q.n = l.length ∧ q.ty = 5 ∧ q.e = 1) ∨ (E.tk[kt]? = none ∧ E.τ[kt]? = none ∧ cv = .slice none 0 0 ∧ l.length = 0)) ∧
      tk'[kt]? = some ⟨l.length + s.size, 5, 1⟩ ∧ (∀ j, j ≠ kt → tk'[j]? = E.tk[j]?) ∧ (∀ y : Value, ∃ τ' : List Value, τ'[kt]? = some y ∧ τ'.length = tk'.length ∧ ∀ j, j ≠ kt → τ'[j]? = E.τ[j]?) := by
    rcases hc with ⟨rfl, rfl, rfl, rfl⟩ | ⟨rfl, hl, htk, rfl⟩
    · have := rv_v_eq hcv
      subst this
      refine ⟨_, rfl, ⟨rfl, .inl ⟨rfl, rfl⟩⟩, by simp [Value.ownBlock], .inr ⟨?_, ?_, rfl, rfl⟩, ?_, ?_, ?_⟩
      · rw [hlen']; simp
      · rw [hlen', ← h.env.tl]; simp
      · simp
      · intro j hj
        rw [h.tk]
        rcases Nat.lt_or_ge j st.tk.length with h1 | h1
        · rw [List.getElem?_append_left h1]
        · rw [List.getElem?_eq_none (l := st.tk) h1]
          exact List.getElem?_eq_none (by simp; omega)
      · intro y
        refine ⟨E.τ ++ [y], ?_, by simp [h.env.tl, h.tk], fun j hj => ?_⟩
        · rw [hlen', ← h.env.tl]; simp
        · rcases Nat.lt_or_ge j E.τ.length with h1 | h1
          · rw [List.getElem?_append_left h1]
          · rw [List.getElem?_eq_none (l := E.τ) h1]
            have := h.env.tl
            exact List.getElem?_eq_none (by simp; omega)
    · obtain ⟨g, cap, cur, rfl, hg, hnc, hcm, hcs, htake, hgb, hτ⟩ := row_of h hl htk hcv
      have hkl := (List.getElem?_eq_some_iff.1 htk).1
      refine ⟨_, rfl, ⟨by rw [Lib.byteCells_length, Nat.mul_one], .inr ⟨g, cap, cur, rfl, Nat.zero_le _, hg, hnc, hcm, hcs, htake⟩⟩, ?_, .inl ⟨_, by rw [h.tk]; exact htk, hτ, rfl, rfl, rfl⟩, ?_, ?_, ?_⟩
      · intro he
        simp only [Value.ownBlock, Option.some.injEq] at he
        exact hgb (he ▸ hbm)
      · rw [List.getElem?_set_self hkl]
      · intro j hj
        rw [List.getElem?_set_ne (Ne.symm hj), h.tk]
      · intro y
        refine ⟨E.τ.set kt y, ?_, by simp [h.env.tl, h.tk], fun j hj => List.getElem?_set_ne (Ne.symm hj)⟩
        rw [List.getElem?_set_self]
        rw [h.env.tl, ← hlen']; exact hkl
  obtain ⟨xs, rfl, hown, hne, hkk, htk1, htk2, hτ⟩ := key
  refine (bw_mem b pv cv l.length (Lib.byteCells l) s w hpv' hw hown hne hs hlen).mono ?_
  rintro e w' ⟨rfl, g, cap, w2, hown2, hgrow, hdi, rfl⟩
  obtain ⟨τ', hτ1, hτ2, hτ3⟩ := hτ (.slice (some ⟨g, 0, none⟩) (l.length + s.size) cap)
  have hself : Rv E (.loc i 0) (.pointer (some ⟨b, 0, none⟩)) := by unfold Rv; exact ⟨b, hb, rfl⟩
  have r1 : Rel X E ⟨st.sl, st.bx.set i [.loc i 0, c], st.tk⟩ a (bldW w b cv) :=
    store_rel h hst hb (cs' := [.loc i 0, c]) (arr' := [.pointer (some ⟨b, 0, none⟩), cv]) ⟨rvL_cons hself (rvL_one hcv), by
      intro v hv
      simp only [List.mem_cons, List.not_mem_nil, or_false] at hv
      rcases hv with rfl | rfl
      · rfl
      · exact ho v (by simp)⟩ ⟨_, hw⟩
  obtain ⟨r2, hext, hcell⟩ := grow_rel r1 hst hkk hs (by omega) htk1 hτ1 hτ2 htk2 hτ3 (own_set hown hne) hown2 hgrow hdi
  have hb2 : (bldW w b cv).heap[b]? = some (.cells #[.pointer (some ⟨b, 0, none⟩), cv] 126 (0, 0)) := setBlk_same hw
  have hb3 : w2.heap[b]? = some (.cells #[.pointer (some ⟨b, 0, none⟩), cv] 126 (0, 0)) := by
    rw [hgrow.block b (lt_of_blk hb2) (fun e => hne e.symm)]
    exact hb2
  have hslice : Rv (⟨addC E.c w2 g ((l.length + s.size) * 1), E.β, tk', τ'⟩ : En) (.sl 1 (bD (l ++ s.data.toList)) (some kt)) (.slice (some ⟨g, 0, none⟩) (l.length + s.size) cap) := by
    have hsl : s.data.toList.length = s.size := by rw [Array.length_toList]; rfl
    unfold Rv
    refine ⟨_, _, _, rfl, ⟨by rw [bD_len, List.length_append, hsl], ?_⟩, fun _ => ⟨rfl, ?_⟩, ?_⟩
    · rcases hown2.2 with ⟨hv, _⟩ | ⟨_, _, _, hv, _, _, hnc, _⟩
      · cases hv
      · injection hv with _ _ i3
        omega
    · refine rvEs_flat (arr := Lib.byteCells (l ++ s.data.toList)) (bD_rvc _) (fun cs hcm => ?_) fun j u hj => ?_
      · simp only [bD, List.mem_map] at hcm
        obtain ⟨x, _, rfl⟩ := hcm
        rfl
      · simp only [ab, ao, Nat.zero_add]
        refine hcell j u ?_
        rw [strCells_eq]
        simpa [Lib.byteCells] using hj
    · intro k' hk'
      cases hk'
      exact ⟨_, htk1, Nat.le_refl _, fun _ => hτ1⟩
  have r3 := store_rel r2 hst (i := i) (b := b) hb (cs' := [.loc i 0, .sl 1 (bD (l ++ s.data.toList)) (some kt)]) (arr' := [.pointer (some ⟨b, 0, none⟩), .slice (some ⟨g, 0, none⟩) (l.length + s.size) cap])
    ⟨rvL_cons (by unfold Rv; exact ⟨b, hb, rfl⟩) (rvL_one hslice), by
      intro v hv
      simp only [List.mem_cons, List.not_mem_nil, or_false] at hv
      rcases hv with rfl | rfl <;> rfl⟩ ⟨_, hb3⟩
  simp only [List.set_set] at r3
  exact go_sound 4000 _ _ hk _ _ _ (put_rel r3 hd (.tup [.v (.int .i64 s.size), .v .nilIface]) _ (by unfold Rv; exact ⟨_, rfl, rvL_cons (by unfold Rv; exact ⟨rfl, rfl⟩) (rvL_one (by unfold Rv; exact ⟨rfl, rfl⟩))⟩))

/-- The same, the new text being told. -/
theorem call_bwl {X : Ctx} {st : St} {k : List It} (hP : X.P = Tryz.prog) {i kt d : Nat} {p c : DV} {l : List UInt8} {s : ByteArray} {tk' : List TkE} (l' : List UInt8) (hl' : l' = l ++ s.data.toList) (hbt : (i, 126) ∈ X.bt) (hbx : st.bx[i]? = some [p, c])
    (hp : p = .v (.pointer none) ∨ p = .loc i 0)
    (hc : (c = .v (.slice none 0 0) ∧ l = [] ∧ kt = st.tk.length ∧ tk' = st.tk ++ [⟨l'.length, 5, 1⟩]) ∨ (c = .sl 1 (bD l) (some kt) ∧ l ≠ [] ∧ st.tk[kt]? = some ⟨l.length, 5, 1⟩ ∧ tk' = st.tk.set kt ⟨l'.length, 5, 1⟩))
    (hs : 0 < s.size) (hlen : l'.length ≤ 140737488355328) (hd : okD X.nt st.sl (some d) = true)
    (hk : go X 4000 k ⟨(d, ⟨[], .tup [.v (.int .i64 s.size), .v .nilIface]⟩) :: st.sl, st.bx.set i [.loc i 0, .sl 1 (bD l') (some kt)], tk'⟩)
    (hst : X.still = false := by exact rfl) : CallG X 77 [.loc i 0, .v (.string s)] (some d) k st := by
  have hn : l'.length = l.length + s.size := by rw [hl', List.length_append, Array.length_toList]; rfl
  subst hl'
  refine call_bw hP hbt hbx hp ?_ hs (by omega) hd hk hst
  rcases hc with ⟨h1, h2, h3, h4⟩ | ⟨h1, h2, h3, h4⟩
  · refine .inl ⟨h1, h2, h3, ?_⟩
    rw [h4, hn, h2]
    simp
  · exact .inr ⟨h1, h2, h3, by rw [h4, hn]⟩

theorem freeze_cell {w : World} {g n : Nat} (x : Addr) : (w.freeze ⟨g, 0, none⟩ n).cell? x = w.cell? x := by
  unfold World.freeze
  split
  · rfl
  · simp only [World.cell?, Array.getElem?_modify]
    by_cases hg : g = x.block
    · subst hg
      simp only [if_true]
      cases w.heap[x.block]? with
      | none => rfl
      | some o =>
        cases o with
        | cells c e z => simp only [Option.map_some]
        | _ => simp
    · simp [hg]
theorem freeze_other {w : World} {g n k : Nat} (h : k ≠ g) : (w.freeze ⟨g, 0, none⟩ n).heap[k]? = w.heap[k]? := by
  unfold World.freeze
  split
  · rfl
  · simp only [Array.getElem?_modify]
    rw [if_neg (Ne.symm h)]
theorem freeze_keeps {w : World} {g n : Nat} : (w.freeze ⟨g, 0, none⟩ n).os = w.os ∧ (w.freeze ⟨g, 0, none⟩ n).tape = w.tape ∧ (w.freeze ⟨g, 0, none⟩ n).output = w.output ∧ (w.freeze ⟨g, 0, none⟩ n).heap.size = w.heap.size := by
  unfold World.freeze
  split
  · exact ⟨rfl, rfl, rfl, rfl⟩
  · exact ⟨rfl, rfl, rfl, by simp⟩

/-- **String**, of a Builder of one's own that holds something, in a function that was handed no object; all else is forgotten. -/
theorem call_bs {X : Ctx} {st : St} {k : List It} (hP : X.P = Tryz.prog) {i kt d : Nat} {p : DV} {l : List UInt8} (hbt : (i, 126) ∈ X.bt) (hbx : st.bx[i]? = some [p, .sl 1 (bD l) (some kt)])
    (hl : l ≠ []) (htk : st.tk[kt]? = some ⟨l.length, 5, 1⟩) (hn0 : X.n0 = 0) (hm0 : X.m0 = 0) (hd : okD X.nt st.sl (some d) = true)
    (hk : go X 4000 k ⟨[(d, ⟨[], .v (.string ⟨l.toArray⟩)⟩)], [], []⟩) (hst : X.still = false := by exact rfl) : CallG X 82 [.loc i 0] (some d) k st := by
  refine ⟨?_, hst, fun E a w vs h hv => ?_⟩
  · rw [hP]; exact (enters_of Tryz.func82 (by decide +kernel) rfl)
  rw [hP]
  simp only [RvL] at hv
  obtain ⟨v1, vr, rfl, h1, rfl⟩ := hv
  unfold Rv at h1
  obtain ⟨b, hb, rfl⟩ := h1
  obtain ⟨b', ty, arr, hb', hw, hcc⟩ := h.env.bxs i _ hbx
  rw [hb] at hb'
  simp only [Option.some.injEq] at hb'
  subst hb'
  obtain ⟨cs0, hcs0⟩ := h.bt _ hbt b hb
  rw [hw] at hcs0
  simp only [Option.some.injEq, Obj.cells.injEq] at hcs0
  have hty : ty = 126 := hcs0.2.1
  subst hty
  obtain ⟨hr, ho⟩ := hcc
  simp only [RvL] at hr
  obtain ⟨pv, r1, rfl, hpv, cv, r2, rfl, hcv, rfl⟩ := hr
  obtain ⟨g, cap, cur, rfl, hg, hnc, hcm, hcs, htake, hgb, hτ⟩ := row_of h hl htk hcv
  refine (bs_mem b g cap pv l cur w hl hw hg hnc hcm hcs htake).mono ?_
  rintro e w' ⟨rfl, rfl⟩
  obtain ⟨k1, k2, k3, k4⟩ := freeze_keeps (w := w.drew) (g := g) (n := l.length)
  have hE0 : X.E0.β = [] := List.eq_nil_of_length_eq_zero (by rw [X.hn0, hn0])
  have hT0 : X.E0.tk = [] := List.eq_nil_of_length_eq_zero (by rw [X.hm0, hm0])
  have hg0 : X.w0.heap.size ≤ g := h.nw.tn kt _ g (by rw [hT0]; exact Nat.zero_le _) hτ rfl
  let E' : En := ⟨E.c, [], [], []⟩
  have hrel : Rel X E' ⟨[], [], []⟩ a (w.drew.freeze ⟨g, 0, none⟩ l.length) := {
    env := {
      len := rfl
      tl := rfl
      bxs := by simp
      inj := List.nodup_nil
      sub := fun x v hx => by rw [freeze_cell]; exact h.env.sub x v hx
      pc := by simp [E']
      tks := by simp [E']
      tkd := by simp [E'] }
    tk := rfl
    sz := h.sz
    tm := fun i x hx => by cases hx
    df := h.df
    nw := {
      c := fun x v hx => h.nw.c x v hx
      cn := fun x v hx => h.nw.cn x v hx
      β := ⟨[], by rw [hE0]; rfl, by simp⟩
      tk := fun k q y hq _ => by rw [hT0] at hq; simp at hq
      tn := fun k y g' _ hy _ => by simp [E'] at hy
      l0 := h.nw.l0 }
    fr := h.fr.trans_keep k1 k2 k3 (by rw [k4]; exact Nat.le_refl _) fun j hj => by
      by_cases hjg : j = g
      · left; exact .inr (hjg ▸ hg0)
      · right; exact freeze_other hjg
    sh := noSt hst
    bt := fun p hp b hb => by simp [E'] at hb }
  have hd' : okD X.nt ([] : List (Nat × Sl)) (some d) = true := by
    simp only [okD, Bool.and_eq_true] at hd ⊢
    exact ⟨hd.1, rfl⟩
  exact go_sound 4000 _ _ hk _ _ _ (put_rel (st := ⟨[], [], []⟩) hrel hd' (.v (.string ⟨l.toArray⟩)) _ (by unfold Rv; exact ⟨rfl, rfl⟩))
end Go.Proofs.YtmphiikdhifhjaaGreat
set_option maxRecDepth 100000
namespace Go.Proofs.YtmphiikdhifhjaaGreat
open Go Go.RowKit Dv Tryz

theorem nmTx_succ {l : List Wd} {i : Nat} {x : Wd} (h : l[i]? = some x) : nmTx (l.take (i + 1)) = nmTx (l.take i) ++ [x.s] := by
  rw [List.take_add_one, h]; simp [nmTx]
theorem dup_mem (l : List Wd) (s : ByteArray) : dupBefore l s = true ↔ s ∈ nmTx l := by
  simp only [dupBefore, List.any_eq_true, decide_eq_true_eq, nmTx, List.mem_map]

theorem nodup_succ {l : List Wd} {i : Nat} {x : Wd} (h : l[i]? = some x) (hn : (nmTx (l.take i)).Nodup) : (nmTx (l.take (i + 1))).Nodup ↔ dupBefore (l.take i) x.s = false := by
  rw [nmTx_succ h, List.nodup_append]
  constructor
  · rintro ⟨_, _, h3⟩
    cases hb : dupBefore (l.take i) x.s
    · rfl
    · exact absurd rfl (h3 x.s ((dup_mem _ _).1 hb) x.s (by simp))
  · intro hb
    refine ⟨hn, by simp, fun a ha b hb2 => ?_⟩
    simp only [List.mem_singleton] at hb2
    subst hb2
    rintro rfl
    rw [(dup_mem _ _).2 ha] at hb
    cases hb

/-- The names so far being unlike, both say the same of the next. -/
theorem listed_eq {l : List Wd} {i : Nat} {x : Wd} (a : Int) (h : l[i]? = some x) (hn : (nmTx (l.take i)).Nodup) :
    listedP (nmTx (l.take (i + 1))) x.s a = if listedF l i x ≠ 0 then (listedF l i x, a) else (0, 0) := by
  have hs := nodup_succ h hn
  unfold listedP listedF
  by_cases h1 : nameOK x.s = true
  · rw [if_pos h1, if_pos h1]
    by_cases h2 : dupBefore (l.take i) x.s = true
    · rw [if_pos h2, if_neg (fun hc => by rw [hs.1 hc] at h2; cases h2)]; rfl
    · rw [if_neg h2, if_pos (hs.2 (by simpa using h2))]; rfl
  · rw [if_neg h1, if_neg h1]; rfl

/-- Where both find nothing, the names stay unlike. -/
theorem listed_nodup {l : List Wd} {i : Nat} {x : Wd} (h : l[i]? = some x) (hn : (nmTx (l.take i)).Nodup) (hz : listedF l i x = 0) : (nmTx (l.take (i + 1))).Nodup := by
  refine (nodup_succ h hn).2 ?_
  unfold listedF at hz
  by_cases h1 : nameOK x.s = true
  · rw [if_pos h1] at hz
    by_cases h2 : dupBefore (l.take i) x.s = true
    · rw [if_pos h2] at hz; simp at hz
    · simpa using h2
  · rw [if_neg h1] at hz; simp at hz

/-- The enum's names: the first fault, from the e-th name on. -/
theorem enum_from (l : List Wd) : ∀ (d e : Nat), e + d = l.length → (enumP l e) = (0, 0) → (nmTx (l.take e)).Nodup → enumP l l.length = enumL l e (l.drop e)
  | 0, e, hd, hz, hn => by
    have : e = l.length := by omega
    subst this
    rw [hz, List.drop_length]; rfl
  | d + 1, e, hd, hz, hn => by
    obtain ⟨x, hx⟩ : ∃ x, l[e]? = some x := ⟨_, List.getElem?_eq_getElem (by omega)⟩
    have h1 := enumP_step (by rw [hz]) hx
    rw [listed_eq x.a hx hn] at h1
    rw [drop_cons hx]
    simp only [enumL]
    by_cases hf : listedF l e x ≠ 0
    · rw [if_pos hf] at h1 ⊢
      have hst := enumP_stay (l := l) (e := e + 1) (by rw [h1]; exact hf) d
      rw [show e + 1 + d = l.length by omega] at hst
      rw [hst, h1]
    · rw [if_neg hf] at h1 ⊢
      exact enum_from l d (e + 1) (by omega) h1 (listed_nodup hx hn (by simpa using hf))

theorem kenum_eq (h : Hd) : kenumF h = enumWd h := by
  unfold kenumF enumWd
  by_cases h0 : h.names = []
  · rw [if_pos h0, if_pos (by simp [h0])]
  · rw [if_neg h0, if_neg (by simpa using h0)]
    by_cases h1 : 64 < h.names.length
    · rw [if_pos h1, if_pos h1]
    · rw [if_neg h1, if_neg h1]
      have := enum_from h.names h.names.length 0 (by omega) rfl (by simp [nmTx])
      simpa using this

/-- A bare part's only like. -/
def bareOf (p : Ph) : Ph := ⟨p.name, true, [], 0, 0, 0, 0, []⟩
theorem bare_eq (p : Ph) (t : Ty) : samePartB p t (bareOf p) zeroTy = (plainP p barePh && sameTy t zeroTy) := by
  have e : plainP p (bareOf p) = plainP p barePh := rfl
  unfold samePartB
  rw [e]
  have e2 : decide (p.name.s = (bareOf p).name.s) = true := decide_eq_true rfl
  rw [e2, Bool.true_and]
theorem empty_eq (p : Ph) : samePartB p zeroTy zeroPh zeroTy = (decide (p.name.s = emptyB) && plainP p zeroPh) := by
  have e : sameTy zeroTy zeroTy = true := by simp [zeroTy, zeroHd, sameTy, sameHd, samePts, sameWds]
  simp only [samePartB, e, Bool.and_true]
  rfl
end Go.Proofs.YtmphiikdhifhjaaGreat
set_option maxRecDepth 100000
namespace Go.Proofs.YtmphiikdhifhjaaGreat
open Go Go.RowKit Dv Tryz

/-- What one of the checker's methods says: the fault, and how many types so far, where nothing is wrong. -/
def ChkR (x : Ft × Int) (r : DV) (os : List (List DV)) (_ : List TkE) : Prop :=
  r = x.1.d ∧ ∃ z : Int, os = [[.v (.int .i64 z)]] ∧ (x.1.1 = 0 → z = x.2)

theorem chkR_cl {x : Ft × Int} : ∀ r os tk, ChkR x r os tk → clB 0 0 r = true ∧ ∀ cs2 ∈ os, clB.clL 0 0 cs2 = true := by
  rintro r os tk ⟨rfl, z, rfl, _⟩
  refine ⟨rfl, fun cs2 h => ?_⟩
  simp only [List.mem_singleton] at h
  subst h
  rfl

/-- The contract of check, for types of at most this weight. -/
def KChk (k : Nat) : Prop := ∀ (t : Ty) (depth m : Int), t.wt ≤ k → t.wt ≤ 1099511627776 → 0 ≤ depth → depth ≤ 25 → 0 ≤ m → m ≤ 512 →
  Ev Tryz.prog 125 [.loc 0 0, .agg (dTy t), .v (.int .i64 depth)] [[.v (.int .i64 m)]] [] (ChkR (wrong t depth m))

/-- What part says of a part. -/
def partF (p : Ph) (t : Ty) (un : Bool) (depth m : Int) : Ft × Int :=
  if p.bare = true then (if un = false ∨ samePartB p t (bareOf p) zeroTy = false then ((19, p.name.a), m) else ((0, 0), m))
  else if (partWd p).1 ≠ 0 then (partWd p, m)
  else wrong t (depth + 1) m

/-- What is left at the end: the value's form. -/
theorem chkR_mk {x : Ft × Int} {f : Ft} {m z : Int} (h : x = (f, m)) (hz : f.1 = 0 → z = m) {tk : List TkE} : ChkR x f.d [[.v (.int .i64 z)]] tk := by
  subst h
  exact ⟨rfl, z, rfl, hz⟩

theorem kpart_spec (k : Nat) (ih : KChk k) (p : Ph) (t : Ty) (un : Bool) (depth m : Int) (hk : t.wt ≤ k) (hp : p.wt ≤ 1099511627776) (hbig : t.wt ≤ 1099511627776) (hd0 : 0 ≤ depth) (hd1 : depth ≤ 24) (hm0 : 0 ≤ m) (hm1 : m ≤ 512) :
    Ev Tryz.prog 192 [.loc 0 0, .agg (dPh p (dTy t)), .v (.bool un), .v (.int .i64 depth)] [[.v (.int .i64 m)]] [] (ChkR (partF p t un depth m)) := by
  have hp' := hp
  simp only [Ph.wt] at hp'
  have hsame := samePart_of p (bareOf p) t zeroTy hp (by simp only [Ph.wt, bareOf, wdsWt]; omega) (ksame_spec t zeroTy hbig (by decide))
  have hih := ih t (depth + 1) m hk hbig (by omega) (by omega) hm0 hm1
  obtain ⟨u, us⟩ := t
  have hcoa := kcoarse_spec p (dTy (.mk u us)) (.mk u us) rfl hp
  have hS := partF.eq_def p (.mk u us) un depth m
  generalize partF p (.mk u us) un depth m = F at hS ⊢
  obtain ⟨nm, bare, lab, wide, ck, cn, ca, cl⟩ := p
  simp only at hS hp' hsame
  cases bare with
  | true =>
    rw [if_pos rfl] at hS
    cases un with
    | true =>
      refine ev_go (P := Tryz.prog) tt tt_ok 5000 68 [.cell 8 33] Tryz.func192 rfl Tryz.ntmps192 rfl (Nat.le_of_ble_eq_true rfl) (fun E9 w9 hn9 hm9 => ?_)
      refine call_p (enters_of Tryz.func202 (by decide +kernel) rfl) (hsame) (by repeat' (first | exact rfl | exact trivial | exact Or.inr (Or.inl ⟨_, rfl⟩) | exact Or.inr ⟨_, rfl⟩ | exact Or.inl ⟨rfl, rfl⟩ | exact Or.inl rfl | refine Or.inr ⟨_, _, rfl, Nat.zero_le _, rfl, ?_⟩ | refine ⟨_, _, rfl, ?_, ?_⟩ | refine ⟨_, rfl, ?_⟩ | refine Or.inr (Or.inr (Or.inr ⟨_, _, rfl, ?_⟩)) | exact Or.inl rfl | refine Or.inr ?_)) rfl ?_
      refine br (fun q => ?_) (fun q => ?_)
      · have q : samePartB ⟨nm, true, lab, wide, ck, cn, ca, cl⟩ (.mk u us) (bareOf ⟨nm, true, lab, wide, ck, cn, ca, cl⟩) zeroTy = false := by simpa [show (lastG (21, false) [(18, true)]).snd = true from rfl, pickB] using q
        rw [if_pos (.inr q)] at hS
        refine call_p (enters_of Tryz.func164 (by decide +kernel) rfl) (bad_spec 19 nm.a) (by repeat' (first | exact rfl | exact trivial | exact Or.inr (Or.inl ⟨_, rfl⟩) | exact Or.inr ⟨_, rfl⟩ | exact Or.inl ⟨rfl, rfl⟩ | exact Or.inl rfl | refine Or.inr ⟨_, _, rfl, Nat.zero_le _, rfl, ?_⟩ | refine ⟨_, _, rfl, ?_, ?_⟩ | refine ⟨_, rfl, ?_⟩ | refine Or.inr (Or.inr (Or.inr ⟨_, _, rfl, ?_⟩)) | exact Or.inl rfl | refine Or.inr ?_)) rfl ?_
        exact ⟨_, _, (by repeat' (first | exact rfl | exact trivial | exact Or.inr (Or.inl ⟨_, rfl⟩) | exact Or.inr ⟨_, rfl⟩ | exact Or.inl ⟨rfl, rfl⟩ | exact Or.inl rfl | refine Or.inr ⟨_, _, rfl, Nat.zero_le _, rfl, ?_⟩ | refine ⟨_, _, rfl, ?_, ?_⟩ | refine ⟨_, rfl, ?_⟩ | refine Or.inr (Or.inr (Or.inr ⟨_, _, rfl, ?_⟩)) | exact Or.inl rfl | refine Or.inr ?_)), (by repeat' (first | exact rfl | exact trivial | exact Or.inr (Or.inl ⟨_, rfl⟩) | exact Or.inr ⟨_, rfl⟩ | exact Or.inl ⟨rfl, rfl⟩ | exact Or.inl rfl | refine Or.inr ⟨_, _, rfl, Nat.zero_le _, rfl, ?_⟩ | refine ⟨_, _, rfl, ?_, ?_⟩ | refine ⟨_, rfl, ?_⟩ | refine Or.inr (Or.inr (Or.inr ⟨_, _, rfl, ?_⟩)) | exact Or.inl rfl | refine Or.inr ?_)), chkR_mk (tk := []) (f := (19, nm.a)) hS (fun _ => rfl)⟩
      · have q : samePartB ⟨nm, true, lab, wide, ck, cn, ca, cl⟩ (.mk u us) (bareOf ⟨nm, true, lab, wide, ck, cn, ca, cl⟩) zeroTy = true := by simpa [show (lastG (21, false) [(18, true)]).snd = true from rfl, pickB] using q
        rw [if_neg (by simp [q])] at hS
        exact ⟨_, _, (by repeat' (first | exact rfl | exact trivial | exact Or.inr (Or.inl ⟨_, rfl⟩) | exact Or.inr ⟨_, rfl⟩ | exact Or.inl ⟨rfl, rfl⟩ | exact Or.inl rfl | refine Or.inr ⟨_, _, rfl, Nat.zero_le _, rfl, ?_⟩ | refine ⟨_, _, rfl, ?_, ?_⟩ | refine ⟨_, rfl, ?_⟩ | refine Or.inr (Or.inr (Or.inr ⟨_, _, rfl, ?_⟩)) | exact Or.inl rfl | refine Or.inr ?_)), (by repeat' (first | exact rfl | exact trivial | exact Or.inr (Or.inl ⟨_, rfl⟩) | exact Or.inr ⟨_, rfl⟩ | exact Or.inl ⟨rfl, rfl⟩ | exact Or.inl rfl | refine Or.inr ⟨_, _, rfl, Nat.zero_le _, rfl, ?_⟩ | refine ⟨_, _, rfl, ?_, ?_⟩ | refine ⟨_, rfl, ?_⟩ | refine Or.inr (Or.inr (Or.inr ⟨_, _, rfl, ?_⟩)) | exact Or.inl rfl | refine Or.inr ?_)), chkR_mk (tk := []) (f := (0, 0)) hS (fun _ => rfl)⟩
    | false =>
      refine ev_go (P := Tryz.prog) tt tt_ok 5000 68 [.cell 8 33] Tryz.func192 rfl Tryz.ntmps192 rfl (Nat.le_of_ble_eq_true rfl) (fun E9 w9 hn9 hm9 => ?_)
      rw [if_pos (.inl rfl)] at hS
      refine call_p (enters_of Tryz.func164 (by decide +kernel) rfl) (bad_spec 19 nm.a) (by repeat' (first | exact rfl | exact trivial | exact Or.inr (Or.inl ⟨_, rfl⟩) | exact Or.inr ⟨_, rfl⟩ | exact Or.inl ⟨rfl, rfl⟩ | exact Or.inl rfl | refine Or.inr ⟨_, _, rfl, Nat.zero_le _, rfl, ?_⟩ | refine ⟨_, _, rfl, ?_, ?_⟩ | refine ⟨_, rfl, ?_⟩ | refine Or.inr (Or.inr (Or.inr ⟨_, _, rfl, ?_⟩)) | exact Or.inl rfl | refine Or.inr ?_)) rfl ?_
      exact ⟨_, _, (by repeat' (first | exact rfl | exact trivial | exact Or.inr (Or.inl ⟨_, rfl⟩) | exact Or.inr ⟨_, rfl⟩ | exact Or.inl ⟨rfl, rfl⟩ | exact Or.inl rfl | refine Or.inr ⟨_, _, rfl, Nat.zero_le _, rfl, ?_⟩ | refine ⟨_, _, rfl, ?_, ?_⟩ | refine ⟨_, rfl, ?_⟩ | refine Or.inr (Or.inr (Or.inr ⟨_, _, rfl, ?_⟩)) | exact Or.inl rfl | refine Or.inr ?_)), (by repeat' (first | exact rfl | exact trivial | exact Or.inr (Or.inl ⟨_, rfl⟩) | exact Or.inr ⟨_, rfl⟩ | exact Or.inl ⟨rfl, rfl⟩ | exact Or.inl rfl | refine Or.inr ⟨_, _, rfl, Nat.zero_le _, rfl, ?_⟩ | refine ⟨_, _, rfl, ?_, ?_⟩ | refine ⟨_, rfl, ?_⟩ | refine Or.inr (Or.inr (Or.inr ⟨_, _, rfl, ?_⟩)) | exact Or.inl rfl | refine Or.inr ?_)), chkR_mk (tk := []) (f := (19, nm.a)) hS (fun _ => rfl)⟩
  | false =>
    rw [if_neg (by simp)] at hS
    refine ev_go (P := Tryz.prog) tt tt_ok 5000 68 [.cell 8 33] Tryz.func192 rfl Tryz.ntmps192 rfl (Nat.le_of_ble_eq_true rfl) (fun E9 w9 hn9 hm9 => ?_)
    refine br (fun hw => ?_) (fun hw => ?_)
    · have hw : wide < 0 ∨ 64 < wide := by simpa [pickB_or] using hw
      have hP : partWd ⟨nm, false, lab, wide, ck, cn, ca, cl⟩ = (20, nm.a) := by simp only [partWd, if_pos hw]
      rw [hP, if_pos (by simp)] at hS
      refine call_p (enters_of Tryz.func164 (by decide +kernel) rfl) (bad_spec 20 nm.a) (by repeat' (first | exact rfl | exact trivial | exact Or.inr (Or.inl ⟨_, rfl⟩) | exact Or.inr ⟨_, rfl⟩ | exact Or.inl ⟨rfl, rfl⟩ | exact Or.inl rfl | refine Or.inr ⟨_, _, rfl, Nat.zero_le _, rfl, ?_⟩ | refine ⟨_, _, rfl, ?_, ?_⟩ | refine ⟨_, rfl, ?_⟩ | refine Or.inr (Or.inr (Or.inr ⟨_, _, rfl, ?_⟩)) | exact Or.inl rfl | refine Or.inr ?_)) rfl ?_
      exact ⟨_, _, (by repeat' (first | exact rfl | exact trivial | exact Or.inr (Or.inl ⟨_, rfl⟩) | exact Or.inr ⟨_, rfl⟩ | exact Or.inl ⟨rfl, rfl⟩ | exact Or.inl rfl | refine Or.inr ⟨_, _, rfl, Nat.zero_le _, rfl, ?_⟩ | refine ⟨_, _, rfl, ?_, ?_⟩ | refine ⟨_, rfl, ?_⟩ | refine Or.inr (Or.inr (Or.inr ⟨_, _, rfl, ?_⟩)) | exact Or.inl rfl | refine Or.inr ?_)), (by repeat' (first | exact rfl | exact trivial | exact Or.inr (Or.inl ⟨_, rfl⟩) | exact Or.inr ⟨_, rfl⟩ | exact Or.inl ⟨rfl, rfl⟩ | exact Or.inl rfl | refine Or.inr ⟨_, _, rfl, Nat.zero_le _, rfl, ?_⟩ | refine ⟨_, _, rfl, ?_, ?_⟩ | refine ⟨_, rfl, ?_⟩ | refine Or.inr (Or.inr (Or.inr ⟨_, _, rfl, ?_⟩)) | exact Or.inl rfl | refine Or.inr ?_)), chkR_mk (tk := []) (f := (20, nm.a)) hS (fun _ => rfl)⟩
    have hw : ¬ (wide < 0 ∨ 64 < wide) := by simp [pickB_or] at hw; omega
    refine call_p (enters_of Tryz.func203 (by decide +kernel) rfl) (klabel_spec lab (by omega)) (by repeat' (first | exact rfl | exact trivial | exact Or.inr (Or.inl ⟨_, rfl⟩) | exact Or.inr ⟨_, rfl⟩ | exact Or.inl ⟨rfl, rfl⟩ | exact Or.inl rfl | refine Or.inr ⟨_, _, rfl, Nat.zero_le _, rfl, ?_⟩ | refine ⟨_, _, rfl, ?_, ?_⟩ | refine ⟨_, rfl, ?_⟩ | refine Or.inr (Or.inr (Or.inr ⟨_, _, rfl, ?_⟩)) | exact Or.inl rfl | refine Or.inr ?_)) rfl ?_
    refine br (fun hb => ?_) (fun hb => ?_)
    · have hb : (labelF lab).1 ≠ 0 := by simpa using hb
      have hP : partWd ⟨nm, false, lab, wide, ck, cn, ca, cl⟩ = labelF lab := by simp only [partWd, if_neg hw, if_pos hb]
      rw [hP, if_pos hb] at hS
      exact ⟨_, _, (by repeat' (first | exact rfl | exact trivial | exact Or.inr (Or.inl ⟨_, rfl⟩) | exact Or.inr ⟨_, rfl⟩ | exact Or.inl ⟨rfl, rfl⟩ | exact Or.inl rfl | refine Or.inr ⟨_, _, rfl, Nat.zero_le _, rfl, ?_⟩ | refine ⟨_, _, rfl, ?_, ?_⟩ | refine ⟨_, rfl, ?_⟩ | refine Or.inr (Or.inr (Or.inr ⟨_, _, rfl, ?_⟩)) | exact Or.inl rfl | refine Or.inr ?_)), (by repeat' (first | exact rfl | exact trivial | exact Or.inr (Or.inl ⟨_, rfl⟩) | exact Or.inr ⟨_, rfl⟩ | exact Or.inl ⟨rfl, rfl⟩ | exact Or.inl rfl | refine Or.inr ⟨_, _, rfl, Nat.zero_le _, rfl, ?_⟩ | refine ⟨_, _, rfl, ?_, ?_⟩ | refine ⟨_, rfl, ?_⟩ | refine Or.inr (Or.inr (Or.inr ⟨_, _, rfl, ?_⟩)) | exact Or.inl rfl | refine Or.inr ?_)), chkR_mk (tk := []) (f := labelF lab) hS (fun _ => rfl)⟩
    have hb : (labelF lab).1 = 0 := by simpa using hb
    have hP : partWd ⟨nm, false, lab, wide, ck, cn, ca, cl⟩ = coarseF ⟨nm, false, lab, wide, ck, cn, ca, cl⟩ := by simp only [partWd, if_neg hw]; rw [if_neg (by simp [hb])]
    rw [hP] at hS
    refine call_p (enters_of Tryz.func204 (by decide +kernel) rfl) (hcoa) (by repeat' (first | exact rfl | exact trivial | exact Or.inr (Or.inl ⟨_, rfl⟩) | exact Or.inr ⟨_, rfl⟩ | exact Or.inl ⟨rfl, rfl⟩ | exact Or.inl rfl | refine Or.inr ⟨_, _, rfl, Nat.zero_le _, rfl, ?_⟩ | refine ⟨_, _, rfl, ?_, ?_⟩ | refine ⟨_, rfl, ?_⟩ | refine Or.inr (Or.inr (Or.inr ⟨_, _, rfl, ?_⟩)) | exact Or.inl rfl | refine Or.inr ?_)) rfl ?_
    refine br (fun hc => ?_) (fun hc => ?_)
    · have hc : (coarseF ⟨nm, false, lab, wide, ck, cn, ca, cl⟩).1 ≠ 0 := by simpa using hc
      rw [if_pos hc] at hS
      exact ⟨_, _, (by repeat' (first | exact rfl | exact trivial | exact Or.inr (Or.inl ⟨_, rfl⟩) | exact Or.inr ⟨_, rfl⟩ | exact Or.inl ⟨rfl, rfl⟩ | exact Or.inl rfl | refine Or.inr ⟨_, _, rfl, Nat.zero_le _, rfl, ?_⟩ | refine ⟨_, _, rfl, ?_, ?_⟩ | refine ⟨_, rfl, ?_⟩ | refine Or.inr (Or.inr (Or.inr ⟨_, _, rfl, ?_⟩)) | exact Or.inl rfl | refine Or.inr ?_)), (by repeat' (first | exact rfl | exact trivial | exact Or.inr (Or.inl ⟨_, rfl⟩) | exact Or.inr ⟨_, rfl⟩ | exact Or.inl ⟨rfl, rfl⟩ | exact Or.inl rfl | refine Or.inr ⟨_, _, rfl, Nat.zero_le _, rfl, ?_⟩ | refine ⟨_, _, rfl, ?_, ?_⟩ | refine ⟨_, rfl, ?_⟩ | refine Or.inr (Or.inr (Or.inr ⟨_, _, rfl, ?_⟩)) | exact Or.inl rfl | refine Or.inr ?_)), chkR_mk (tk := []) (f := coarseF ⟨nm, false, lab, wide, ck, cn, ca, cl⟩) hS (fun _ => rfl)⟩
    have hc : (coarseF ⟨nm, false, lab, wide, ck, cn, ca, cl⟩).1 = 0 := by simpa using hc
    rw [if_neg (by simp [hc])] at hS
    refine call_o (enters_of Tryz.func125 (by decide +kernel) rfl) rfl rfl (by repeat' (first | exact rfl | exact trivial | exact Or.inr (Or.inl ⟨_, rfl⟩) | exact Or.inr ⟨_, rfl⟩ | exact Or.inl ⟨rfl, rfl⟩ | exact Or.inl rfl | refine Or.inr ⟨_, _, rfl, Nat.zero_le _, rfl, ?_⟩ | refine ⟨_, _, rfl, ?_, ?_⟩ | refine ⟨_, rfl, ?_⟩ | refine Or.inr (Or.inr (Or.inr ⟨_, _, rfl, ?_⟩)) | exact Or.inl rfl | refine Or.inr ?_)) (by repeat' (first | exact rfl | exact trivial | exact Or.inr (Or.inl ⟨_, rfl⟩) | exact Or.inr ⟨_, rfl⟩ | exact Or.inl ⟨rfl, rfl⟩ | exact Or.inl rfl | refine Or.inr ⟨_, _, rfl, Nat.zero_le _, rfl, ?_⟩ | refine ⟨_, _, rfl, ?_, ?_⟩ | refine ⟨_, rfl, ?_⟩ | exact congrArg (fun z => DV.v (.int .i64 z)) (wrap64 (by omega) (by omega)) | refine Or.inr (Or.inr (Or.inr ⟨_, _, rfl, ?_⟩)) | exact Or.inl rfl | refine Or.inr ?_)) hih chkR_cl (fun r cs2 hr => ?_)
    obtain ⟨rfl, z, hz, hzz⟩ := hr
    simp only [List.cons.injEq, and_true] at hz
    subst hz
    exact ⟨_, _, (by repeat' (first | exact rfl | exact trivial | exact Or.inr (Or.inl ⟨_, rfl⟩) | exact Or.inr ⟨_, rfl⟩ | exact Or.inl ⟨rfl, rfl⟩ | exact Or.inl rfl | refine Or.inr ⟨_, _, rfl, Nat.zero_le _, rfl, ?_⟩ | refine ⟨_, _, rfl, ?_, ?_⟩ | refine ⟨_, rfl, ?_⟩ | refine Or.inr (Or.inr (Or.inr ⟨_, _, rfl, ?_⟩)) | exact Or.inl rfl | refine Or.inr ?_)), (by repeat' (first | exact rfl | exact trivial | exact Or.inr (Or.inl ⟨_, rfl⟩) | exact Or.inr ⟨_, rfl⟩ | exact Or.inl ⟨rfl, rfl⟩ | exact Or.inl rfl | refine Or.inr ⟨_, _, rfl, Nat.zero_le _, rfl, ?_⟩ | refine ⟨_, _, rfl, ?_, ?_⟩ | refine ⟨_, rfl, ?_⟩ | refine Or.inr (Or.inr (Or.inr ⟨_, _, rfl, ?_⟩)) | exact Or.inl rfl | refine Or.inr ?_)), chkR_mk (tk := []) (f := (wrong (.mk u us) (depth + 1) m).1) hS hzz⟩
end Go.Proofs.YtmphiikdhifhjaaGreat
set_option maxRecDepth 100000
namespace Go.Proofs.YtmphiikdhifhjaaGreat
open Go Go.RowKit Dv Tryz

theorem wrongPts_part {kind : Int} {all : List Wd} {i : Nat} {p : Ph} {t : Ty} {r : Pts} {depth m : Int} (hk : kind = 7 ∨ kind = 8) (hl : listedF all i p.name = 0) :
    wrongPts kind all i (.cons p t r) depth m = if (partF p t (decide (kind = 8)) depth m).1.1 ≠ 0 then partF p t (decide (kind = 8)) depth m else wrongPts kind all (i + 1) r depth (partF p t (decide (kind = 8)) depth m).2 := by
  simp only [wrongPts]
  rw [if_neg (by simp [hl])]
  unfold partF
  by_cases hb : p.bare = true
  · rw [if_pos hb, if_pos hb, bare_eq]
    by_cases h7 : kind = 7
    · subst h7
      rw [if_pos (.inl rfl), if_pos (c := decide ((7 : Int) = 8) = false ∨ _) (.inl (by simp)), if_pos (by simp)]
    · have h8 : kind = 8 := by omega
      subst h8
      by_cases h : sameTy t zeroTy = false ∨ plainP p barePh = false
      · have h' : decide ((8 : Int) = 8) = false ∨ (plainP p barePh && sameTy t zeroTy) = false := .inr (by rcases h with h | h <;> simp [h])
        rw [if_pos (.inr h), if_pos h', if_pos (by simp)]
      · have h1 : sameTy t zeroTy = true := by
          cases hc : sameTy t zeroTy
          · exact absurd (.inl hc) h
          · rfl
        have h2 : plainP p barePh = true := by
          cases hc : plainP p barePh
          · exact absurd (.inr hc) h
          · rfl
        have h' : ¬ (decide ((8 : Int) = 8) = false ∨ (plainP p barePh && sameTy t zeroTy) = false) := by simp [h1, h2]
        rw [if_neg (by simp [h1, h2]), if_neg h', if_neg (by simp)]
  · rw [if_neg hb, if_neg hb]
    by_cases hP : (partWd p).1 ≠ 0
    · rw [if_pos hP, if_pos hP, if_pos hP]
    · rw [if_neg hP, if_neg hP]

theorem partF_ok {p : Ph} {t : Ty} {un : Bool} {depth m : Int} (hm0 : 0 ≤ m) (hm1 : m ≤ 512) (h : (partF p t un depth m).1.1 = 0) : (partF p t un depth m).1 = (0, 0) ∧ 0 ≤ (partF p t un depth m).2 ∧ (partF p t un depth m).2 ≤ 512 := by
  have hw := wrong_ok t (depth + 1) m hm0
  unfold partF at h ⊢
  by_cases hb : p.bare = true
  · rw [if_pos hb] at h ⊢
    split at h
    · simp at h
    · rename_i hc
      rw [if_neg hc]
      exact ⟨rfl, hm0, hm1⟩
  · rw [if_neg hb] at h ⊢
    by_cases hP : (partWd p).1 ≠ 0
    · rw [if_pos hP] at h; exact absurd h hP
    · rw [if_neg hP] at h ⊢
      exact hw h

abbrev kpartsSt (h : Hd) (ps : Pts) (n e : Nat) (depth m : Int) : St :=
  ⟨[(0, ⟨[], .loc 0 0⟩), (2, ⟨[], .v (.int .i64 depth)⟩), (4, ⟨[], .loc 1 0⟩), (6, ⟨[], .loc 2 0⟩), (38, ⟨[], .sl 18 (dPts ps) none⟩), (39, ⟨[], .v (.int .i64 (dPts ps).length)⟩), (40, ⟨[], .v (.int .i64 e)⟩), (7, ⟨[], .sl 1 (dBs (nmTx ((pNames ps).take e))) (some 0)⟩)],
   [[.v (.int .i64 m)], dTy (.mk h ps), [.v (.int .i64 0), .v (.int .i64 0)]], [⟨n, 9, 1⟩]⟩

theorem kparts_spec (k : Nat) (ih : KChk k) (h : Hd) (ps : Pts) (depth m : Int) (hkd : h.kind = 7 ∨ h.kind = 8) (hk : ps.wt ≤ k) (hbig : (Ty.mk h ps).wt ≤ 1099511627776) (hd0 : 0 ≤ depth) (hd1 : depth ≤ 24) (hm0 : 0 ≤ m) (hm1 : m ≤ 512) :
    Ev Tryz.prog 168 [.loc 0 0, .agg (dTy (.mk h ps)), .v (.int .i64 depth)] [[.v (.int .i64 m)]] [] (ChkR (partsF h ps depth m)) := by
  simp only [Ty.wt, Hd.wt] at hbig
  have hpl := ps.wt_len
  have hnl := pNames_len ps
  have hnw := pNames_wt ps
  have hS := partsF.eq_def h ps depth m
  generalize partsF h ps depth m = F at hS ⊢
  refine ev_go (P := Tryz.prog) tt tt_ok 5000 72 [.cell 6 33] Tryz.func168 rfl Tryz.ntmps168 rfl (Nat.le_of_ble_eq_true rfl) (fun E9 w9 hn9 hm9 => ?_)
  refine br (fun c1 => ?_) (fun c1 => ?_)
  · have c1 : h.kind = 8 ∧ ps.len = 0 := by
      simp [pickB_and, dPts_len] at c1
      exact ⟨c1.1, by omega⟩
    rw [if_pos c1] at hS
    refine call_p (enters_of Tryz.func164 (by decide +kernel) rfl) (bad_spec 15 h.at') (by repeat' (first | exact rfl | exact trivial | exact Or.inr (Or.inl ⟨_, rfl⟩) | exact Or.inr ⟨_, rfl⟩ | exact Or.inl ⟨rfl, rfl⟩ | exact Or.inl rfl | refine Or.inr ⟨_, _, rfl, Nat.zero_le _, rfl, ?_⟩ | refine ⟨_, _, rfl, ?_, ?_⟩ | refine ⟨_, rfl, ?_⟩ | refine Or.inr (Or.inr (Or.inr ⟨_, _, rfl, ?_⟩)) | exact Or.inl rfl | refine Or.inr ?_)) rfl ?_
    exact ⟨_, _, (by repeat' (first | exact rfl | exact trivial | exact Or.inr (Or.inl ⟨_, rfl⟩) | exact Or.inr ⟨_, rfl⟩ | exact Or.inl ⟨rfl, rfl⟩ | exact Or.inl rfl | refine Or.inr ⟨_, _, rfl, Nat.zero_le _, rfl, ?_⟩ | refine ⟨_, _, rfl, ?_, ?_⟩ | refine ⟨_, rfl, ?_⟩ | refine Or.inr (Or.inr (Or.inr ⟨_, _, rfl, ?_⟩)) | exact Or.inl rfl | refine Or.inr ?_)), (by repeat' (first | exact rfl | exact trivial | exact Or.inr (Or.inl ⟨_, rfl⟩) | exact Or.inr ⟨_, rfl⟩ | exact Or.inl ⟨rfl, rfl⟩ | exact Or.inl rfl | refine Or.inr ⟨_, _, rfl, Nat.zero_le _, rfl, ?_⟩ | refine ⟨_, _, rfl, ?_, ?_⟩ | refine ⟨_, rfl, ?_⟩ | refine Or.inr (Or.inr (Or.inr ⟨_, _, rfl, ?_⟩)) | exact Or.inl rfl | refine Or.inr ?_)), chkR_mk (tk := []) (f := (15, h.at')) hS (fun _ => rfl)⟩
  have c1 : ¬ (h.kind = 8 ∧ ps.len = 0) := by
    simp [pickB_and, dPts_len] at c1
    omega
  rw [if_neg c1] at hS
  refine br (fun c2 => ?_) (fun c2 => ?_)
  · have hlt : 64 < ps.len := by simp [dPts_len] at c2; omega
    obtain ⟨p, t, hx⟩ := Pts.get_lt hlt
    refine ⟨_, ⟨by omega, dPts_get hx⟩, ?_⟩
    refine call_p (enters_of Tryz.func164 (by decide +kernel) rfl) (bad_spec 8 p.name.a) (by repeat' (first | exact rfl | exact trivial | exact Or.inr (Or.inl ⟨_, rfl⟩) | exact Or.inr ⟨_, rfl⟩ | exact Or.inl ⟨rfl, rfl⟩ | exact Or.inl rfl | refine Or.inr ⟨_, _, rfl, Nat.zero_le _, rfl, ?_⟩ | refine ⟨_, _, rfl, ?_, ?_⟩ | refine ⟨_, rfl, ?_⟩ | refine Or.inr (Or.inr (Or.inr ⟨_, _, rfl, ?_⟩)) | exact Or.inl rfl | refine Or.inr ?_)) rfl ?_
    rw [if_pos hlt, pNames_get hx] at hS
    exact ⟨_, _, (by repeat' (first | exact rfl | exact trivial | exact Or.inr (Or.inl ⟨_, rfl⟩) | exact Or.inr ⟨_, rfl⟩ | exact Or.inl ⟨rfl, rfl⟩ | exact Or.inl rfl | refine Or.inr ⟨_, _, rfl, Nat.zero_le _, rfl, ?_⟩ | refine ⟨_, _, rfl, ?_, ?_⟩ | refine ⟨_, rfl, ?_⟩ | refine Or.inr (Or.inr (Or.inr ⟨_, _, rfl, ?_⟩)) | exact Or.inl rfl | refine Or.inr ?_)), (by repeat' (first | exact rfl | exact trivial | exact Or.inr (Or.inl ⟨_, rfl⟩) | exact Or.inr ⟨_, rfl⟩ | exact Or.inl ⟨rfl, rfl⟩ | exact Or.inl rfl | refine Or.inr ⟨_, _, rfl, Nat.zero_le _, rfl, ?_⟩ | refine ⟨_, _, rfl, ?_, ?_⟩ | refine ⟨_, rfl, ?_⟩ | refine Or.inr (Or.inr (Or.inr ⟨_, _, rfl, ?_⟩)) | exact Or.inl rfl | refine Or.inr ?_)), chkR_mk (tk := []) (f := (8, p.name.a)) hS (fun _ => rfl)⟩
  have c2 : ¬ 64 < ps.len := by simp [dPts_len] at c2; omega
  rw [if_neg c2] at hS
  refine loop_i (fun j st => ∃ (e : Nat) (m' : Int), st = kpartsSt h ps e e depth m' ∧ e ≤ ps.len ∧ 0 ≤ m' ∧ m' ≤ 512 ∧ (nmTx ((pNames ps).take e)).Nodup ∧
      F = wrongPts h.kind (pNames ps) e (ps.drop e) depth m' ∧ j = ps.len - e) ps.len (kpartsSt h ps 0 0 depth m) (weak_tok ⟨0, 9, 1⟩ rfl ⟨_, rfl⟩ rfl (by repeat' (first | exact rfl | exact we_rfl rfl | refine ⟨_, _, rfl, ?_, ?_⟩)) rfl rfl (by repeat' (first | exact trivial | exact we_rfl rfl | exact we_rfl rfl | exact we_tok (Nat.le_refl _) rfl | refine ⟨⟨_, rfl, ?_⟩, ?_⟩))) ⟨0, m, rfl, by omega, hm0, hm1, by simp [nmTx], hS, by omega⟩ ?_
  rintro j st ⟨e, m', rfl, he, hm0', hm1', hnd, heq, rfl⟩
  refine br (fun hL => ?_) (fun hL => ?_)
  · have hlt : e < ps.len := by simpa [dPts_len] using hL
    obtain ⟨p, t, hx⟩ := Pts.get_lt hlt
    have hwt := Pts.wt_mem (List.mem_of_getElem? hx)
    have hnx := pNames_get hx
    have hpw : p.name.s.size + 64 ≤ p.wt := by simp only [Ph.wt, Wd.wt]; omega
    rw [Pts.drop_cons hx] at heq
    have hlast : (nmTx ((pNames ps).take (e + 1)))[(nmTx ((pNames ps).take (e + 1))).length - 1]? = some p.name.s := by
      have hl1 : (nmTx ((pNames ps).take (e + 1))).length = e + 1 := by simp [nmTx]; omega
      rw [hl1]
      simp [nmTx, hnx]
    have hsp := listed_spec (nmTx ((pNames ps).take (e + 1))) p.name.s p.name.a hlast (by simp [nmTx]; omega) (by omega)
    have hsn := nmTx_snoc hnx
    rw [listed_eq p.name.a hnx hnd, ← hsn] at hsp
    have hpart := kpart_spec k ih p t (decide (h.kind = 8)) depth m' (by omega) (by omega) (by omega) hd0 hd1 hm0' hm1'
    obtain ⟨u, us⟩ := t
    refine ⟨_, ⟨by omega, dPts_get hx⟩, ?_⟩
    refine ⟨by simp [dBs_len, nmTx]; omega, ⟨by simp [dBs_len, nmTx, maxLen]; omega, by simp [dBs_len, nmTx]; omega⟩, ?_⟩
    refine call_p (enters_of Tryz.func190 (by decide +kernel) rfl) (hsp) (by repeat' (first | exact rfl | exact trivial | exact Or.inr (Or.inl ⟨_, rfl⟩) | exact Or.inr ⟨_, rfl⟩ | exact Or.inl ⟨rfl, rfl⟩ | exact Or.inl rfl | refine Or.inr ⟨_, _, rfl, Nat.zero_le _, rfl, ?_⟩ | refine ⟨_, _, rfl, ?_, ?_⟩ | refine ⟨_, rfl, ?_⟩ | refine Or.inr (Or.inr (Or.inr ⟨_, _, rfl, ?_⟩)) | exact Or.inl rfl | refine Or.inr ?_)) rfl ?_
    by_cases hl : listedF (pNames ps) e p.name ≠ 0
    · rw [if_pos hl]
      refine br (fun hf => ?_) (fun hf => ?_)
      · simp only [wrongPts] at heq
        rw [if_pos hl] at heq
        exact ⟨_, _, (by repeat' (first | exact rfl | exact trivial | exact Or.inr (Or.inl ⟨_, rfl⟩) | exact Or.inr ⟨_, rfl⟩ | exact Or.inl ⟨rfl, rfl⟩ | exact Or.inl rfl | refine Or.inr ⟨_, _, rfl, Nat.zero_le _, rfl, ?_⟩ | refine ⟨_, _, rfl, ?_, ?_⟩ | refine ⟨_, rfl, ?_⟩ | refine Or.inr (Or.inr (Or.inr ⟨_, _, rfl, ?_⟩)) | exact Or.inl rfl | refine Or.inr ?_)), (by repeat' (first | exact rfl | exact trivial | exact Or.inr (Or.inl ⟨_, rfl⟩) | exact Or.inr ⟨_, rfl⟩ | exact Or.inl ⟨rfl, rfl⟩ | exact Or.inl rfl | refine Or.inr ⟨_, _, rfl, Nat.zero_le _, rfl, ?_⟩ | refine ⟨_, _, rfl, ?_, ?_⟩ | refine ⟨_, rfl, ?_⟩ | refine Or.inr (Or.inr (Or.inr ⟨_, _, rfl, ?_⟩)) | exact Or.inl rfl | refine Or.inr ?_)), chkR_mk (tk := []) (f := (listedF (pNames ps) e p.name, p.name.a)) heq (fun _ => rfl)⟩
      · exact absurd (by simpa using hf) hl
    have hl : listedF (pNames ps) e p.name = 0 := by simpa using hl
    have hndn := listed_nodup hnx hnd hl
    rw [if_neg (by simp [hl])]
    rw [wrongPts_part hkd hl] at heq
    have hok := partF_ok (p := p) (t := .mk u us) (un := decide (h.kind = 8)) (depth := depth) hm0' hm1'
    generalize partF p (.mk u us) (decide (h.kind = 8)) depth m' = r at hpart heq hok
    obtain ⟨⟨fe, fa⟩, many⟩ := r
    simp only at heq hok
    refine call_o (enters_of Tryz.func192 (by decide +kernel) rfl) rfl rfl (by repeat' (first | exact rfl | exact trivial | exact Or.inr (Or.inl ⟨_, rfl⟩) | exact Or.inr ⟨_, rfl⟩ | exact Or.inl ⟨rfl, rfl⟩ | exact Or.inl rfl | refine Or.inr ⟨_, _, rfl, Nat.zero_le _, rfl, ?_⟩ | refine ⟨_, _, rfl, ?_, ?_⟩ | refine ⟨_, rfl, ?_⟩ | refine Or.inr (Or.inr (Or.inr ⟨_, _, rfl, ?_⟩)) | exact Or.inl rfl | refine Or.inr ?_)) (by repeat' (first | exact rfl | exact trivial | exact Or.inr (Or.inl ⟨_, rfl⟩) | exact Or.inr ⟨_, rfl⟩ | exact Or.inl ⟨rfl, rfl⟩ | exact Or.inl rfl | refine Or.inr ⟨_, _, rfl, Nat.zero_le _, rfl, ?_⟩ | refine ⟨_, _, rfl, ?_, ?_⟩ | refine ⟨_, rfl, ?_⟩ | refine Or.inr (Or.inr (Or.inr ⟨_, _, rfl, ?_⟩)) | exact Or.inl rfl | refine Or.inr ?_)) hpart chkR_cl (fun r cs2 hr => ?_)
    obtain ⟨rfl, z, hz, hzz⟩ := hr
    simp only [List.cons.injEq, and_true] at hz
    subst hz
    refine br (fun hd => ?_) (fun hd => ?_)
    · have hd : fe ≠ 0 := by simpa using hd
      rw [if_pos hd] at heq
      exact ⟨_, _, (by repeat' (first | exact rfl | exact trivial | exact Or.inr (Or.inl ⟨_, rfl⟩) | exact Or.inr ⟨_, rfl⟩ | exact Or.inl ⟨rfl, rfl⟩ | exact Or.inl rfl | refine Or.inr ⟨_, _, rfl, Nat.zero_le _, rfl, ?_⟩ | refine ⟨_, _, rfl, ?_, ?_⟩ | refine ⟨_, rfl, ?_⟩ | refine Or.inr (Or.inr (Or.inr ⟨_, _, rfl, ?_⟩)) | exact Or.inl rfl | refine Or.inr ?_)), (by repeat' (first | exact rfl | exact trivial | exact Or.inr (Or.inl ⟨_, rfl⟩) | exact Or.inr ⟨_, rfl⟩ | exact Or.inl ⟨rfl, rfl⟩ | exact Or.inl rfl | refine Or.inr ⟨_, _, rfl, Nat.zero_le _, rfl, ?_⟩ | refine ⟨_, _, rfl, ?_, ?_⟩ | refine ⟨_, rfl, ?_⟩ | refine Or.inr (Or.inr (Or.inr ⟨_, _, rfl, ?_⟩)) | exact Or.inl rfl | refine Or.inr ?_)), chkR_mk (tk := []) (f := (fe, fa)) heq (fun h0 => absurd h0 hd)⟩
    · have hd : fe = 0 := by simpa using hd
      subst hd
      obtain ⟨_, h2, h3⟩ := hok rfl
      rw [if_neg (by simp)] at heq
      have hz2 : z = many := hzz rfl
      subst hz2
      exact ⟨kpartsSt h ps (e + 1) (e + 1) depth z, (weak_mk ⟨_, rfl⟩ (by repeat' (first | exact rfl | exact we_rfl rfl | refine ⟨_, _, rfl, ?_, ?_⟩)) rfl rfl rfl (by repeat' (first | exact trivial | exact we_rfl rfl | exact we_int (nxt hlt (by omega)) | exact we_sl hsn rfl | refine ⟨⟨_, rfl, ?_⟩, ?_⟩))), ps.len - (e + 1), by omega, e + 1, z, rfl, by omega, h2, h3, hndn, heq, rfl⟩
  · have hge : e = ps.len := by simp [dPts_len] at hL; omega
    rw [hge, Pts.drop_len] at heq
    simp only [wrongPts] at heq
    exact ⟨_, _, (by repeat' (first | exact rfl | exact trivial | exact Or.inr (Or.inl ⟨_, rfl⟩) | exact Or.inr ⟨_, rfl⟩ | exact Or.inl ⟨rfl, rfl⟩ | exact Or.inl rfl | refine Or.inr ⟨_, _, rfl, Nat.zero_le _, rfl, ?_⟩ | refine ⟨_, _, rfl, ?_, ?_⟩ | refine ⟨_, rfl, ?_⟩ | refine Or.inr (Or.inr (Or.inr ⟨_, _, rfl, ?_⟩)) | exact Or.inl rfl | refine Or.inr ?_)), (by repeat' (first | exact rfl | exact trivial | exact Or.inr (Or.inl ⟨_, rfl⟩) | exact Or.inr ⟨_, rfl⟩ | exact Or.inl ⟨rfl, rfl⟩ | exact Or.inl rfl | refine Or.inr ⟨_, _, rfl, Nat.zero_le _, rfl, ?_⟩ | refine ⟨_, _, rfl, ?_, ?_⟩ | refine ⟨_, rfl, ?_⟩ | refine Or.inr (Or.inr (Or.inr ⟨_, _, rfl, ?_⟩)) | exact Or.inl rfl | refine Or.inr ?_)), chkR_mk (tk := []) (f := (0, 0)) heq (fun _ => rfl)⟩
end Go.Proofs.YtmphiikdhifhjaaGreat
set_option maxRecDepth 100000
namespace Go.Proofs.YtmphiikdhifhjaaGreat
open Go Go.RowKit Dv Tryz

theorem kone_spec (k : Nat) (ih : KChk k) (h : Hd) (ps : Pts) (depth m : Int) (hk : ps.wt ≤ k) (hbig : (Ty.mk h ps).wt ≤ 1099511627776) (hd0 : 0 ≤ depth) (hd1 : depth ≤ 24) (hm0 : 0 ≤ m) (hm1 : m ≤ 512) :
    Ev Tryz.prog 167 [.loc 0 0, .agg (dTy (.mk h ps)), .v (.int .i64 depth)] [[.v (.int .i64 m)]] [] (ChkR (wrongOne h ps depth m)) := by
  simp only [Ty.wt, Hd.wt] at hbig
  cases ps with
  | nil =>
    have hS : wrongOne h .nil depth m = ((19, h.at'), m) := by simp only [wrongOne]
    generalize wrongOne h .nil depth m = F at hS ⊢
    refine ev_go (P := Tryz.prog) tt tt_ok 5000 44 [.cell 6 33] Tryz.func167 rfl Tryz.ntmps167 rfl (Nat.le_of_ble_eq_true rfl) (fun E9 w9 hn9 hm9 => ?_)
    refine call_p (enters_of Tryz.func164 (by decide +kernel) rfl) (bad_spec 19 h.at') (by repeat' (first | exact rfl | exact trivial | exact Or.inr (Or.inl ⟨_, rfl⟩) | exact Or.inr ⟨_, rfl⟩ | exact Or.inl ⟨rfl, rfl⟩ | exact Or.inl rfl | refine Or.inr ⟨_, _, rfl, Nat.zero_le _, rfl, ?_⟩ | refine ⟨_, _, rfl, ?_, ?_⟩ | refine ⟨_, rfl, ?_⟩ | refine Or.inr (Or.inr (Or.inr ⟨_, _, rfl, ?_⟩)) | exact Or.inl rfl | refine Or.inr ?_)) rfl ?_
    exact ⟨_, _, (by repeat' (first | exact rfl | exact trivial | exact Or.inr (Or.inl ⟨_, rfl⟩) | exact Or.inr ⟨_, rfl⟩ | exact Or.inl ⟨rfl, rfl⟩ | exact Or.inl rfl | refine Or.inr ⟨_, _, rfl, Nat.zero_le _, rfl, ?_⟩ | refine ⟨_, _, rfl, ?_, ?_⟩ | refine ⟨_, rfl, ?_⟩ | refine Or.inr (Or.inr (Or.inr ⟨_, _, rfl, ?_⟩)) | exact Or.inl rfl | refine Or.inr ?_)), (by repeat' (first | exact rfl | exact trivial | exact Or.inr (Or.inl ⟨_, rfl⟩) | exact Or.inr ⟨_, rfl⟩ | exact Or.inl ⟨rfl, rfl⟩ | exact Or.inl rfl | refine Or.inr ⟨_, _, rfl, Nat.zero_le _, rfl, ?_⟩ | refine ⟨_, _, rfl, ?_, ?_⟩ | refine ⟨_, rfl, ?_⟩ | refine Or.inr (Or.inr (Or.inr ⟨_, _, rfl, ?_⟩)) | exact Or.inl rfl | refine Or.inr ?_)), chkR_mk (tk := []) (f := (19, h.at')) hS (fun _ => rfl)⟩
  | cons p t r =>
    cases r with
    | cons p2 t2 r2 =>
      have hS : wrongOne h (.cons p t (.cons p2 t2 r2)) depth m = ((19, h.at'), m) := by simp only [wrongOne]
      generalize wrongOne h (.cons p t (.cons p2 t2 r2)) depth m = F at hS ⊢
      refine ev_go (P := Tryz.prog) tt tt_ok 5000 44 [.cell 6 33] Tryz.func167 rfl Tryz.ntmps167 rfl (Nat.le_of_ble_eq_true rfl) (fun E9 w9 hn9 hm9 => ?_)
      refine call_p (enters_of Tryz.func164 (by decide +kernel) rfl) (bad_spec 19 h.at') (by repeat' (first | exact rfl | exact trivial | exact Or.inr (Or.inl ⟨_, rfl⟩) | exact Or.inr ⟨_, rfl⟩ | exact Or.inl ⟨rfl, rfl⟩ | exact Or.inl rfl | refine Or.inr ⟨_, _, rfl, Nat.zero_le _, rfl, ?_⟩ | refine ⟨_, _, rfl, ?_, ?_⟩ | refine ⟨_, rfl, ?_⟩ | refine Or.inr (Or.inr (Or.inr ⟨_, _, rfl, ?_⟩)) | exact Or.inl rfl | refine Or.inr ?_)) rfl ?_
      exact ⟨_, _, (by repeat' (first | exact rfl | exact trivial | exact Or.inr (Or.inl ⟨_, rfl⟩) | exact Or.inr ⟨_, rfl⟩ | exact Or.inl ⟨rfl, rfl⟩ | exact Or.inl rfl | refine Or.inr ⟨_, _, rfl, Nat.zero_le _, rfl, ?_⟩ | refine ⟨_, _, rfl, ?_, ?_⟩ | refine ⟨_, rfl, ?_⟩ | refine Or.inr (Or.inr (Or.inr ⟨_, _, rfl, ?_⟩)) | exact Or.inl rfl | refine Or.inr ?_)), (by repeat' (first | exact rfl | exact trivial | exact Or.inr (Or.inl ⟨_, rfl⟩) | exact Or.inr ⟨_, rfl⟩ | exact Or.inl ⟨rfl, rfl⟩ | exact Or.inl rfl | refine Or.inr ⟨_, _, rfl, Nat.zero_le _, rfl, ?_⟩ | refine ⟨_, _, rfl, ?_, ?_⟩ | refine ⟨_, rfl, ?_⟩ | refine Or.inr (Or.inr (Or.inr ⟨_, _, rfl, ?_⟩)) | exact Or.inl rfl | refine Or.inr ?_)), chkR_mk (tk := []) (f := (19, h.at')) hS (fun _ => rfl)⟩
    | nil =>
      simp only [Pts.wt] at hbig hk
      have hS : wrongOne h (.cons p t .nil) depth m = if p.name.s ≠ emptyB ∨ plainP p zeroPh = false then ((19, h.at'), m) else if h.most < 0 ∨ 1024 < h.most then ((20, h.at'), m) else wrong t (depth + 1) m := by simp only [wrongOne]
      generalize wrongOne h (.cons p t .nil) depth m = F at hS ⊢
      have hem := kempty_spec p t (by omega)
      rw [empty_eq] at hem
      have hih := ih t (depth + 1) m (by omega) (by omega) (by omega) (by omega) hm0 hm1
      obtain ⟨u, us⟩ := t
      refine ev_go (P := Tryz.prog) tt tt_ok 5000 44 [.cell 6 33] Tryz.func167 rfl Tryz.ntmps167 rfl (Nat.le_of_ble_eq_true rfl) (fun E9 w9 hn9 hm9 => ?_)
      refine ⟨_, ⟨by omega, rfl⟩, ?_⟩
      refine call_p (enters_of Tryz.func191 (by decide +kernel) rfl) (hem) (by repeat' (first | exact rfl | exact trivial | exact Or.inr (Or.inl ⟨_, rfl⟩) | exact Or.inr ⟨_, rfl⟩ | exact Or.inl ⟨rfl, rfl⟩ | exact Or.inl rfl | refine Or.inr ⟨_, _, rfl, Nat.zero_le _, rfl, ?_⟩ | refine ⟨_, _, rfl, ?_, ?_⟩ | refine ⟨_, rfl, ?_⟩ | refine Or.inr (Or.inr (Or.inr ⟨_, _, rfl, ?_⟩)) | exact Or.inl rfl | refine Or.inr ?_)) rfl ?_
      refine br (fun q => ?_) (fun q => ?_)
      · have q : p.name.s ≠ emptyB ∨ plainP p zeroPh = false := by
          have := q
          simp [pickB] at this
          exact this
        rw [if_pos q] at hS
        refine call_p (enters_of Tryz.func164 (by decide +kernel) rfl) (bad_spec 19 h.at') (by repeat' (first | exact rfl | exact trivial | exact Or.inr (Or.inl ⟨_, rfl⟩) | exact Or.inr ⟨_, rfl⟩ | exact Or.inl ⟨rfl, rfl⟩ | exact Or.inl rfl | refine Or.inr ⟨_, _, rfl, Nat.zero_le _, rfl, ?_⟩ | refine ⟨_, _, rfl, ?_, ?_⟩ | refine ⟨_, rfl, ?_⟩ | refine Or.inr (Or.inr (Or.inr ⟨_, _, rfl, ?_⟩)) | exact Or.inl rfl | refine Or.inr ?_)) rfl ?_
        exact ⟨_, _, (by repeat' (first | exact rfl | exact trivial | exact Or.inr (Or.inl ⟨_, rfl⟩) | exact Or.inr ⟨_, rfl⟩ | exact Or.inl ⟨rfl, rfl⟩ | exact Or.inl rfl | refine Or.inr ⟨_, _, rfl, Nat.zero_le _, rfl, ?_⟩ | refine ⟨_, _, rfl, ?_, ?_⟩ | refine ⟨_, rfl, ?_⟩ | refine Or.inr (Or.inr (Or.inr ⟨_, _, rfl, ?_⟩)) | exact Or.inl rfl | refine Or.inr ?_)), (by repeat' (first | exact rfl | exact trivial | exact Or.inr (Or.inl ⟨_, rfl⟩) | exact Or.inr ⟨_, rfl⟩ | exact Or.inl ⟨rfl, rfl⟩ | exact Or.inl rfl | refine Or.inr ⟨_, _, rfl, Nat.zero_le _, rfl, ?_⟩ | refine ⟨_, _, rfl, ?_, ?_⟩ | refine ⟨_, rfl, ?_⟩ | refine Or.inr (Or.inr (Or.inr ⟨_, _, rfl, ?_⟩)) | exact Or.inl rfl | refine Or.inr ?_)), chkR_mk (tk := []) (f := (19, h.at')) hS (fun _ => rfl)⟩
      have q : ¬ (p.name.s ≠ emptyB ∨ plainP p zeroPh = false) := by
        have := q
        simp [pickB] at this
        simp [this.1, this.2]
      rw [if_neg q] at hS
      refine br (fun x => ?_) (fun x => ?_)
      · have x : h.most < 0 ∨ 1024 < h.most := by simpa [pickB_or] using x
        rw [if_pos x] at hS
        refine call_p (enters_of Tryz.func164 (by decide +kernel) rfl) (bad_spec 20 h.at') (by repeat' (first | exact rfl | exact trivial | exact Or.inr (Or.inl ⟨_, rfl⟩) | exact Or.inr ⟨_, rfl⟩ | exact Or.inl ⟨rfl, rfl⟩ | exact Or.inl rfl | refine Or.inr ⟨_, _, rfl, Nat.zero_le _, rfl, ?_⟩ | refine ⟨_, _, rfl, ?_, ?_⟩ | refine ⟨_, rfl, ?_⟩ | refine Or.inr (Or.inr (Or.inr ⟨_, _, rfl, ?_⟩)) | exact Or.inl rfl | refine Or.inr ?_)) rfl ?_
        exact ⟨_, _, (by repeat' (first | exact rfl | exact trivial | exact Or.inr (Or.inl ⟨_, rfl⟩) | exact Or.inr ⟨_, rfl⟩ | exact Or.inl ⟨rfl, rfl⟩ | exact Or.inl rfl | refine Or.inr ⟨_, _, rfl, Nat.zero_le _, rfl, ?_⟩ | refine ⟨_, _, rfl, ?_, ?_⟩ | refine ⟨_, rfl, ?_⟩ | refine Or.inr (Or.inr (Or.inr ⟨_, _, rfl, ?_⟩)) | exact Or.inl rfl | refine Or.inr ?_)), (by repeat' (first | exact rfl | exact trivial | exact Or.inr (Or.inl ⟨_, rfl⟩) | exact Or.inr ⟨_, rfl⟩ | exact Or.inl ⟨rfl, rfl⟩ | exact Or.inl rfl | refine Or.inr ⟨_, _, rfl, Nat.zero_le _, rfl, ?_⟩ | refine ⟨_, _, rfl, ?_, ?_⟩ | refine ⟨_, rfl, ?_⟩ | refine Or.inr (Or.inr (Or.inr ⟨_, _, rfl, ?_⟩)) | exact Or.inl rfl | refine Or.inr ?_)), chkR_mk (tk := []) (f := (20, h.at')) hS (fun _ => rfl)⟩
      have x : ¬ (h.most < 0 ∨ 1024 < h.most) := by simp [pickB_or] at x; omega
      rw [if_neg x] at hS
      refine ⟨_, ⟨by omega, rfl⟩, ?_⟩
      refine call_o (enters_of Tryz.func125 (by decide +kernel) rfl) rfl rfl (by repeat' (first | exact rfl | exact trivial | exact Or.inr (Or.inl ⟨_, rfl⟩) | exact Or.inr ⟨_, rfl⟩ | exact Or.inl ⟨rfl, rfl⟩ | exact Or.inl rfl | refine Or.inr ⟨_, _, rfl, Nat.zero_le _, rfl, ?_⟩ | refine ⟨_, _, rfl, ?_, ?_⟩ | refine ⟨_, rfl, ?_⟩ | refine Or.inr (Or.inr (Or.inr ⟨_, _, rfl, ?_⟩)) | exact Or.inl rfl | refine Or.inr ?_)) (by repeat' (first | exact rfl | exact trivial | exact Or.inr (Or.inl ⟨_, rfl⟩) | exact Or.inr ⟨_, rfl⟩ | exact Or.inl ⟨rfl, rfl⟩ | exact Or.inl rfl | refine Or.inr ⟨_, _, rfl, Nat.zero_le _, rfl, ?_⟩ | refine ⟨_, _, rfl, ?_, ?_⟩ | refine ⟨_, rfl, ?_⟩ | exact congrArg (fun z => DV.v (.int .i64 z)) (wrap64 (by omega) (by omega)) | refine Or.inr (Or.inr (Or.inr ⟨_, _, rfl, ?_⟩)) | exact Or.inl rfl | refine Or.inr ?_)) hih chkR_cl (fun r cs2 hr => ?_)
      obtain ⟨rfl, z, hz, hzz⟩ := hr
      simp only [List.cons.injEq, and_true] at hz
      subst hz
      exact ⟨_, _, (by repeat' (first | exact rfl | exact trivial | exact Or.inr (Or.inl ⟨_, rfl⟩) | exact Or.inr ⟨_, rfl⟩ | exact Or.inl ⟨rfl, rfl⟩ | exact Or.inl rfl | refine Or.inr ⟨_, _, rfl, Nat.zero_le _, rfl, ?_⟩ | refine ⟨_, _, rfl, ?_, ?_⟩ | refine ⟨_, rfl, ?_⟩ | refine Or.inr (Or.inr (Or.inr ⟨_, _, rfl, ?_⟩)) | exact Or.inl rfl | refine Or.inr ?_)), (by repeat' (first | exact rfl | exact trivial | exact Or.inr (Or.inl ⟨_, rfl⟩) | exact Or.inr ⟨_, rfl⟩ | exact Or.inl ⟨rfl, rfl⟩ | exact Or.inl rfl | refine Or.inr ⟨_, _, rfl, Nat.zero_le _, rfl, ?_⟩ | refine ⟨_, _, rfl, ?_, ?_⟩ | refine ⟨_, rfl, ?_⟩ | refine Or.inr (Or.inr (Or.inr ⟨_, _, rfl, ?_⟩)) | exact Or.inl rfl | refine Or.inr ?_)), chkR_mk (tk := []) (f := (wrong (.mk u us) (depth + 1) m).1) hS hzz⟩

theorem kcheck_step (k : Nat) (ih : KChk k) (h : Hd) (ps : Pts) (depth m : Int) (hk : ps.wt ≤ k) (hbig : (Ty.mk h ps).wt ≤ 1099511627776) (hd0 : 0 ≤ depth) (hd1 : depth ≤ 25) (hm0 : 0 ≤ m) (hm1 : m ≤ 512) :
    Ev Tryz.prog 125 [.loc 0 0, .agg (dTy (.mk h ps)), .v (.int .i64 depth)] [[.v (.int .i64 m)]] [] (ChkR (wrong (.mk h ps) depth m)) := by
  have hbig' := hbig
  simp only [Ty.wt, Hd.wt] at hbig'
  have hmw : IntKind.i64.wrap (m + 1) = m + 1 := wrap64 (by omega) (by omega)
  have hS := wrong.eq_def (.mk h ps) depth m
  simp only at hS
  generalize wrong (.mk h ps) depth m = F at hS ⊢
  have hown := kown_spec h ps
  rw [ownF_eq] at hown
  refine ev_go (P := Tryz.prog) tt tt_ok 5000 103 [.cell 6 33] Tryz.func125 rfl Tryz.ntmps125 rfl (Nat.le_of_ble_eq_true rfl) (fun E9 w9 hn9 hm9 => ?_)
  refine br (fun c => ?_) (fun c => ?_)
  · have c : 24 < depth := of_decide_eq_true c
    rw [if_pos c] at hS
    refine call_p (enters_of Tryz.func164 (by decide +kernel) rfl) (bad_spec 6 h.at') (by repeat' (first | exact rfl | exact trivial | exact Or.inr (Or.inl ⟨_, rfl⟩) | exact Or.inr ⟨_, rfl⟩ | exact Or.inl ⟨rfl, rfl⟩ | exact Or.inl rfl | refine Or.inr ⟨_, _, rfl, Nat.zero_le _, rfl, ?_⟩ | refine ⟨_, _, rfl, ?_, ?_⟩ | refine ⟨_, rfl, ?_⟩ | refine Or.inr (Or.inr (Or.inr ⟨_, _, rfl, ?_⟩)) | exact Or.inl rfl | refine Or.inr ?_)) rfl ?_
    exact ⟨_, [[.v (.int .i64 (m + 1))]], (by repeat' (first | exact rfl | exact trivial | exact Or.inr (Or.inl ⟨_, rfl⟩) | exact Or.inr ⟨_, rfl⟩ | exact Or.inl ⟨rfl, rfl⟩ | exact Or.inl rfl | refine Or.inr ⟨_, _, rfl, Nat.zero_le _, rfl, ?_⟩ | refine ⟨_, _, rfl, ?_, ?_⟩ | refine ⟨_, rfl, ?_⟩ | refine Or.inr (Or.inr (Or.inr ⟨_, _, rfl, ?_⟩)) | exact Or.inl rfl | refine Or.inr ?_)), (by repeat' (first | exact rfl | exact trivial | exact Or.inr (Or.inl ⟨_, rfl⟩) | exact Or.inr ⟨_, rfl⟩ | exact Or.inl ⟨rfl, rfl⟩ | exact Or.inl rfl | refine Or.inr ⟨_, _, rfl, Nat.zero_le _, rfl, ?_⟩ | refine ⟨_, _, rfl, ?_, ?_⟩ | refine ⟨_, rfl, ?_⟩ | exact congrArg (fun z => DV.v (.int .i64 z)) hmw | refine Or.inr (Or.inr (Or.inr ⟨_, _, rfl, ?_⟩)) | exact Or.inl rfl | refine Or.inr ?_)), chkR_mk (tk := []) (f := (6, h.at')) hS (fun _ => rfl)⟩
  have c : ¬ 24 < depth := of_decide_eq_false c
  rw [if_neg c] at hS
  refine br (fun c => ?_) (fun c => ?_)
  · have c : 512 < IntKind.i64.wrap (m + 1) := of_decide_eq_true c
    rw [hmw] at c
    rw [if_pos c] at hS
    refine call_p (enters_of Tryz.func164 (by decide +kernel) rfl) (bad_spec 8 h.at') (by repeat' (first | exact rfl | exact trivial | exact Or.inr (Or.inl ⟨_, rfl⟩) | exact Or.inr ⟨_, rfl⟩ | exact Or.inl ⟨rfl, rfl⟩ | exact Or.inl rfl | refine Or.inr ⟨_, _, rfl, Nat.zero_le _, rfl, ?_⟩ | refine ⟨_, _, rfl, ?_, ?_⟩ | refine ⟨_, rfl, ?_⟩ | refine Or.inr (Or.inr (Or.inr ⟨_, _, rfl, ?_⟩)) | exact Or.inl rfl | refine Or.inr ?_)) rfl ?_
    exact ⟨_, [[.v (.int .i64 (m + 1))]], (by repeat' (first | exact rfl | exact trivial | exact Or.inr (Or.inl ⟨_, rfl⟩) | exact Or.inr ⟨_, rfl⟩ | exact Or.inl ⟨rfl, rfl⟩ | exact Or.inl rfl | refine Or.inr ⟨_, _, rfl, Nat.zero_le _, rfl, ?_⟩ | refine ⟨_, _, rfl, ?_, ?_⟩ | refine ⟨_, rfl, ?_⟩ | refine Or.inr (Or.inr (Or.inr ⟨_, _, rfl, ?_⟩)) | exact Or.inl rfl | refine Or.inr ?_)), (by repeat' (first | exact rfl | exact trivial | exact Or.inr (Or.inl ⟨_, rfl⟩) | exact Or.inr ⟨_, rfl⟩ | exact Or.inl ⟨rfl, rfl⟩ | exact Or.inl rfl | refine Or.inr ⟨_, _, rfl, Nat.zero_le _, rfl, ?_⟩ | refine ⟨_, _, rfl, ?_, ?_⟩ | refine ⟨_, rfl, ?_⟩ | exact congrArg (fun z => DV.v (.int .i64 z)) hmw | refine Or.inr (Or.inr (Or.inr ⟨_, _, rfl, ?_⟩)) | exact Or.inl rfl | refine Or.inr ?_)), chkR_mk (tk := []) (f := (8, h.at')) hS (fun _ => rfl)⟩
  have c : ¬ 512 < IntKind.i64.wrap (m + 1) := of_decide_eq_false c
  rw [hmw] at c
  rw [if_neg c] at hS
  refine br (fun c => ?_) (fun c => ?_)
  · have c : h.kind < 1 ∨ 9 < h.kind := by simpa [pickB_or] using c
    rw [if_pos c] at hS
    refine call_p (enters_of Tryz.func164 (by decide +kernel) rfl) (bad_spec 14 h.at') (by repeat' (first | exact rfl | exact trivial | exact Or.inr (Or.inl ⟨_, rfl⟩) | exact Or.inr ⟨_, rfl⟩ | exact Or.inl ⟨rfl, rfl⟩ | exact Or.inl rfl | refine Or.inr ⟨_, _, rfl, Nat.zero_le _, rfl, ?_⟩ | refine ⟨_, _, rfl, ?_, ?_⟩ | refine ⟨_, rfl, ?_⟩ | refine Or.inr (Or.inr (Or.inr ⟨_, _, rfl, ?_⟩)) | exact Or.inl rfl | refine Or.inr ?_)) rfl ?_
    exact ⟨_, [[.v (.int .i64 (m + 1))]], (by repeat' (first | exact rfl | exact trivial | exact Or.inr (Or.inl ⟨_, rfl⟩) | exact Or.inr ⟨_, rfl⟩ | exact Or.inl ⟨rfl, rfl⟩ | exact Or.inl rfl | refine Or.inr ⟨_, _, rfl, Nat.zero_le _, rfl, ?_⟩ | refine ⟨_, _, rfl, ?_, ?_⟩ | refine ⟨_, rfl, ?_⟩ | refine Or.inr (Or.inr (Or.inr ⟨_, _, rfl, ?_⟩)) | exact Or.inl rfl | refine Or.inr ?_)), (by repeat' (first | exact rfl | exact trivial | exact Or.inr (Or.inl ⟨_, rfl⟩) | exact Or.inr ⟨_, rfl⟩ | exact Or.inl ⟨rfl, rfl⟩ | exact Or.inl rfl | refine Or.inr ⟨_, _, rfl, Nat.zero_le _, rfl, ?_⟩ | refine ⟨_, _, rfl, ?_, ?_⟩ | refine ⟨_, rfl, ?_⟩ | exact congrArg (fun z => DV.v (.int .i64 z)) hmw | refine Or.inr (Or.inr (Or.inr ⟨_, _, rfl, ?_⟩)) | exact Or.inl rfl | refine Or.inr ?_)), chkR_mk (tk := []) (f := (14, h.at')) hS (fun _ => rfl)⟩
  have ck : ¬ (h.kind < 1 ∨ 9 < h.kind) := by simp [pickB_or] at c; omega
  rw [if_neg ck] at hS
  refine call_p (enters_of Tryz.func165 (by decide +kernel) rfl) (hown) (by repeat' (first | exact rfl | exact trivial | exact Or.inr (Or.inl ⟨_, rfl⟩) | exact Or.inr ⟨_, rfl⟩ | exact Or.inl ⟨rfl, rfl⟩ | exact Or.inl rfl | refine Or.inr ⟨_, _, rfl, Nat.zero_le _, rfl, ?_⟩ | refine ⟨_, _, rfl, ?_, ?_⟩ | refine ⟨_, rfl, ?_⟩ | refine Or.inr (Or.inr (Or.inr ⟨_, _, rfl, ?_⟩)) | exact Or.inl rfl | refine Or.inr ?_)) rfl ?_
  refine br (fun c => ?_) (fun c => ?_)
  · have c : ownB (.mk h ps) = false := by simpa [ownB] using c
    rw [if_pos c] at hS
    refine call_p (enters_of Tryz.func164 (by decide +kernel) rfl) (bad_spec 19 h.at') (by repeat' (first | exact rfl | exact trivial | exact Or.inr (Or.inl ⟨_, rfl⟩) | exact Or.inr ⟨_, rfl⟩ | exact Or.inl ⟨rfl, rfl⟩ | exact Or.inl rfl | refine Or.inr ⟨_, _, rfl, Nat.zero_le _, rfl, ?_⟩ | refine ⟨_, _, rfl, ?_, ?_⟩ | refine ⟨_, rfl, ?_⟩ | refine Or.inr (Or.inr (Or.inr ⟨_, _, rfl, ?_⟩)) | exact Or.inl rfl | refine Or.inr ?_)) rfl ?_
    exact ⟨_, [[.v (.int .i64 (m + 1))]], (by repeat' (first | exact rfl | exact trivial | exact Or.inr (Or.inl ⟨_, rfl⟩) | exact Or.inr ⟨_, rfl⟩ | exact Or.inl ⟨rfl, rfl⟩ | exact Or.inl rfl | refine Or.inr ⟨_, _, rfl, Nat.zero_le _, rfl, ?_⟩ | refine ⟨_, _, rfl, ?_, ?_⟩ | refine ⟨_, rfl, ?_⟩ | refine Or.inr (Or.inr (Or.inr ⟨_, _, rfl, ?_⟩)) | exact Or.inl rfl | refine Or.inr ?_)), (by repeat' (first | exact rfl | exact trivial | exact Or.inr (Or.inl ⟨_, rfl⟩) | exact Or.inr ⟨_, rfl⟩ | exact Or.inl ⟨rfl, rfl⟩ | exact Or.inl rfl | refine Or.inr ⟨_, _, rfl, Nat.zero_le _, rfl, ?_⟩ | refine ⟨_, _, rfl, ?_, ?_⟩ | refine ⟨_, rfl, ?_⟩ | exact congrArg (fun z => DV.v (.int .i64 z)) hmw | refine Or.inr (Or.inr (Or.inr ⟨_, _, rfl, ?_⟩)) | exact Or.inl rfl | refine Or.inr ?_)), chkR_mk (tk := []) (f := (19, h.at')) hS (fun _ => rfl)⟩
  have c : ¬ ownB (.mk h ps) = false := by simpa [ownB] using c
  rw [if_neg c] at hS
  refine br (fun k2 => ?_) (fun k2 => ?_)
  · have k2 : h.kind = 2 := of_decide_eq_true k2
    refine br (fun x => ?_) (fun x => ?_)
    · have x : h.hi < h.lo := of_decide_eq_true x
      rw [if_pos (.inl ⟨k2, x⟩)] at hS
      refine call_p (enters_of Tryz.func164 (by decide +kernel) rfl) (bad_spec 20 h.at') (by repeat' (first | exact rfl | exact trivial | exact Or.inr (Or.inl ⟨_, rfl⟩) | exact Or.inr ⟨_, rfl⟩ | exact Or.inl ⟨rfl, rfl⟩ | exact Or.inl rfl | refine Or.inr ⟨_, _, rfl, Nat.zero_le _, rfl, ?_⟩ | refine ⟨_, _, rfl, ?_, ?_⟩ | refine ⟨_, rfl, ?_⟩ | refine Or.inr (Or.inr (Or.inr ⟨_, _, rfl, ?_⟩)) | exact Or.inl rfl | refine Or.inr ?_)) rfl ?_
      exact ⟨_, [[.v (.int .i64 (m + 1))]], (by repeat' (first | exact rfl | exact trivial | exact Or.inr (Or.inl ⟨_, rfl⟩) | exact Or.inr ⟨_, rfl⟩ | exact Or.inl ⟨rfl, rfl⟩ | exact Or.inl rfl | refine Or.inr ⟨_, _, rfl, Nat.zero_le _, rfl, ?_⟩ | refine ⟨_, _, rfl, ?_, ?_⟩ | refine ⟨_, rfl, ?_⟩ | refine Or.inr (Or.inr (Or.inr ⟨_, _, rfl, ?_⟩)) | exact Or.inl rfl | refine Or.inr ?_)), (by repeat' (first | exact rfl | exact trivial | exact Or.inr (Or.inl ⟨_, rfl⟩) | exact Or.inr ⟨_, rfl⟩ | exact Or.inl ⟨rfl, rfl⟩ | exact Or.inl rfl | refine Or.inr ⟨_, _, rfl, Nat.zero_le _, rfl, ?_⟩ | refine ⟨_, _, rfl, ?_, ?_⟩ | refine ⟨_, rfl, ?_⟩ | exact congrArg (fun z => DV.v (.int .i64 z)) hmw | refine Or.inr (Or.inr (Or.inr ⟨_, _, rfl, ?_⟩)) | exact Or.inl rfl | refine Or.inr ?_)), chkR_mk (tk := []) (f := (20, h.at')) hS (fun _ => rfl)⟩
    have x : ¬ h.hi < h.lo := of_decide_eq_false x
    rw [if_neg (by omega), if_neg (by omega), if_neg (by omega), if_neg (by omega), if_neg (by omega)] at hS
    exact ⟨_, [[.v (.int .i64 (m + 1))]], (by repeat' (first | exact rfl | exact trivial | exact Or.inr (Or.inl ⟨_, rfl⟩) | exact Or.inr ⟨_, rfl⟩ | exact Or.inl ⟨rfl, rfl⟩ | exact Or.inl rfl | refine Or.inr ⟨_, _, rfl, Nat.zero_le _, rfl, ?_⟩ | refine ⟨_, _, rfl, ?_, ?_⟩ | refine ⟨_, rfl, ?_⟩ | refine Or.inr (Or.inr (Or.inr ⟨_, _, rfl, ?_⟩)) | exact Or.inl rfl | refine Or.inr ?_)), (by repeat' (first | exact rfl | exact trivial | exact Or.inr (Or.inl ⟨_, rfl⟩) | exact Or.inr ⟨_, rfl⟩ | exact Or.inl ⟨rfl, rfl⟩ | exact Or.inl rfl | refine Or.inr ⟨_, _, rfl, Nat.zero_le _, rfl, ?_⟩ | refine ⟨_, _, rfl, ?_, ?_⟩ | refine ⟨_, rfl, ?_⟩ | exact congrArg (fun z => DV.v (.int .i64 z)) hmw | refine Or.inr (Or.inr (Or.inr ⟨_, _, rfl, ?_⟩)) | exact Or.inl rfl | refine Or.inr ?_)), chkR_mk (tk := []) (f := (0, 0)) hS (fun _ => rfl)⟩
  have k2 : ¬ h.kind = 2 := of_decide_eq_false k2
  refine br (fun k3 => ?_) (fun k3 => ?_)
  · have k3 : h.kind = 3 := of_decide_eq_true k3
    refine br (fun x => ?_) (fun x => ?_)
    · have x : h.most < 0 ∨ 4096 < h.most := by simpa [pickB_or] using x
      rw [if_pos (.inr ⟨k3, x⟩)] at hS
      refine call_p (enters_of Tryz.func164 (by decide +kernel) rfl) (bad_spec 20 h.at') (by repeat' (first | exact rfl | exact trivial | exact Or.inr (Or.inl ⟨_, rfl⟩) | exact Or.inr ⟨_, rfl⟩ | exact Or.inl ⟨rfl, rfl⟩ | exact Or.inl rfl | refine Or.inr ⟨_, _, rfl, Nat.zero_le _, rfl, ?_⟩ | refine ⟨_, _, rfl, ?_, ?_⟩ | refine ⟨_, rfl, ?_⟩ | refine Or.inr (Or.inr (Or.inr ⟨_, _, rfl, ?_⟩)) | exact Or.inl rfl | refine Or.inr ?_)) rfl ?_
      exact ⟨_, [[.v (.int .i64 (m + 1))]], (by repeat' (first | exact rfl | exact trivial | exact Or.inr (Or.inl ⟨_, rfl⟩) | exact Or.inr ⟨_, rfl⟩ | exact Or.inl ⟨rfl, rfl⟩ | exact Or.inl rfl | refine Or.inr ⟨_, _, rfl, Nat.zero_le _, rfl, ?_⟩ | refine ⟨_, _, rfl, ?_, ?_⟩ | refine ⟨_, rfl, ?_⟩ | refine Or.inr (Or.inr (Or.inr ⟨_, _, rfl, ?_⟩)) | exact Or.inl rfl | refine Or.inr ?_)), (by repeat' (first | exact rfl | exact trivial | exact Or.inr (Or.inl ⟨_, rfl⟩) | exact Or.inr ⟨_, rfl⟩ | exact Or.inl ⟨rfl, rfl⟩ | exact Or.inl rfl | refine Or.inr ⟨_, _, rfl, Nat.zero_le _, rfl, ?_⟩ | refine ⟨_, _, rfl, ?_, ?_⟩ | refine ⟨_, rfl, ?_⟩ | exact congrArg (fun z => DV.v (.int .i64 z)) hmw | refine Or.inr (Or.inr (Or.inr ⟨_, _, rfl, ?_⟩)) | exact Or.inl rfl | refine Or.inr ?_)), chkR_mk (tk := []) (f := (20, h.at')) hS (fun _ => rfl)⟩
    have x : ¬ (h.most < 0 ∨ 4096 < h.most) := by simp [pickB_or] at x; omega
    rw [if_neg (by omega), if_neg (by omega), if_neg (by omega), if_neg (by omega), if_neg (by omega)] at hS
    exact ⟨_, [[.v (.int .i64 (m + 1))]], (by repeat' (first | exact rfl | exact trivial | exact Or.inr (Or.inl ⟨_, rfl⟩) | exact Or.inr ⟨_, rfl⟩ | exact Or.inl ⟨rfl, rfl⟩ | exact Or.inl rfl | refine Or.inr ⟨_, _, rfl, Nat.zero_le _, rfl, ?_⟩ | refine ⟨_, _, rfl, ?_, ?_⟩ | refine ⟨_, rfl, ?_⟩ | refine Or.inr (Or.inr (Or.inr ⟨_, _, rfl, ?_⟩)) | exact Or.inl rfl | refine Or.inr ?_)), (by repeat' (first | exact rfl | exact trivial | exact Or.inr (Or.inl ⟨_, rfl⟩) | exact Or.inr ⟨_, rfl⟩ | exact Or.inl ⟨rfl, rfl⟩ | exact Or.inl rfl | refine Or.inr ⟨_, _, rfl, Nat.zero_le _, rfl, ?_⟩ | refine ⟨_, _, rfl, ?_, ?_⟩ | refine ⟨_, rfl, ?_⟩ | exact congrArg (fun z => DV.v (.int .i64 z)) hmw | refine Or.inr (Or.inr (Or.inr ⟨_, _, rfl, ?_⟩)) | exact Or.inl rfl | refine Or.inr ?_)), chkR_mk (tk := []) (f := (0, 0)) hS (fun _ => rfl)⟩
  have k3 : ¬ h.kind = 3 := of_decide_eq_false k3
  rw [if_neg (by omega)] at hS
  refine br (fun k4 => ?_) (fun k4 => ?_)
  · have k4 : h.kind = 4 := of_decide_eq_true k4
    rw [if_neg (by omega), if_pos k4, ← kenum_eq] at hS
    refine call_p (enters_of Tryz.func166 (by decide +kernel) rfl) (kenum_spec h ps (by omega)) (by repeat' (first | exact rfl | exact trivial | exact Or.inr (Or.inl ⟨_, rfl⟩) | exact Or.inr ⟨_, rfl⟩ | exact Or.inl ⟨rfl, rfl⟩ | exact Or.inl rfl | refine Or.inr ⟨_, _, rfl, Nat.zero_le _, rfl, ?_⟩ | refine ⟨_, _, rfl, ?_, ?_⟩ | refine ⟨_, rfl, ?_⟩ | refine Or.inr (Or.inr (Or.inr ⟨_, _, rfl, ?_⟩)) | exact Or.inl rfl | refine Or.inr ?_)) rfl ?_
    exact ⟨_, [[.v (.int .i64 (m + 1))]], (by repeat' (first | exact rfl | exact trivial | exact Or.inr (Or.inl ⟨_, rfl⟩) | exact Or.inr ⟨_, rfl⟩ | exact Or.inl ⟨rfl, rfl⟩ | exact Or.inl rfl | refine Or.inr ⟨_, _, rfl, Nat.zero_le _, rfl, ?_⟩ | refine ⟨_, _, rfl, ?_, ?_⟩ | refine ⟨_, rfl, ?_⟩ | refine Or.inr (Or.inr (Or.inr ⟨_, _, rfl, ?_⟩)) | exact Or.inl rfl | refine Or.inr ?_)), (by repeat' (first | exact rfl | exact trivial | exact Or.inr (Or.inl ⟨_, rfl⟩) | exact Or.inr ⟨_, rfl⟩ | exact Or.inl ⟨rfl, rfl⟩ | exact Or.inl rfl | refine Or.inr ⟨_, _, rfl, Nat.zero_le _, rfl, ?_⟩ | refine ⟨_, _, rfl, ?_, ?_⟩ | refine ⟨_, rfl, ?_⟩ | exact congrArg (fun z => DV.v (.int .i64 z)) hmw | refine Or.inr (Or.inr (Or.inr ⟨_, _, rfl, ?_⟩)) | exact Or.inl rfl | refine Or.inr ?_)), chkR_mk (tk := []) (f := kenumF h) hS (fun _ => rfl)⟩
  have k4 : ¬ h.kind = 4 := of_decide_eq_false k4
  refine br (fun k5 => ?_) (fun k5 => ?_)
  · have k5' : h.kind = 5 ∨ h.kind = 6 := .inl (of_decide_eq_true k5)
    rw [if_neg (by omega), if_neg (by omega), if_pos k5'] at hS
    refine br (fun _ => ?_) (fun hc => by rw [k5] at hc; cases hc)
    refine call_o (enters_of Tryz.func167 (by decide +kernel) rfl) rfl rfl (cs' := [.v (.int .i64 (m + 1))]) (by repeat' (first | exact rfl | exact trivial | exact Or.inr (Or.inl ⟨_, rfl⟩) | exact Or.inr ⟨_, rfl⟩ | exact Or.inl ⟨rfl, rfl⟩ | exact Or.inl rfl | refine Or.inr ⟨_, _, rfl, Nat.zero_le _, rfl, ?_⟩ | refine ⟨_, _, rfl, ?_, ?_⟩ | refine ⟨_, rfl, ?_⟩ | exact congrArg (fun z => DV.v (.int .i64 z)) hmw | refine Or.inr (Or.inr (Or.inr ⟨_, _, rfl, ?_⟩)) | exact Or.inl rfl | refine Or.inr ?_)) (by repeat' (first | exact rfl | exact trivial | exact Or.inr (Or.inl ⟨_, rfl⟩) | exact Or.inr ⟨_, rfl⟩ | exact Or.inl ⟨rfl, rfl⟩ | exact Or.inl rfl | refine Or.inr ⟨_, _, rfl, Nat.zero_le _, rfl, ?_⟩ | refine ⟨_, _, rfl, ?_, ?_⟩ | refine ⟨_, rfl, ?_⟩ | refine Or.inr (Or.inr (Or.inr ⟨_, _, rfl, ?_⟩)) | exact Or.inl rfl | refine Or.inr ?_)) (kone_spec k ih h ps depth (m + 1) hk hbig hd0 (by omega) (by omega) (by omega)) chkR_cl (fun r cs2 hr => ?_)
    obtain ⟨rfl, z, hz, hzz⟩ := hr
    simp only [List.cons.injEq, and_true] at hz
    subst hz
    exact ⟨_, _, (by repeat' (first | exact rfl | exact trivial | exact Or.inr (Or.inl ⟨_, rfl⟩) | exact Or.inr ⟨_, rfl⟩ | exact Or.inl ⟨rfl, rfl⟩ | exact Or.inl rfl | refine Or.inr ⟨_, _, rfl, Nat.zero_le _, rfl, ?_⟩ | refine ⟨_, _, rfl, ?_, ?_⟩ | refine ⟨_, rfl, ?_⟩ | refine Or.inr (Or.inr (Or.inr ⟨_, _, rfl, ?_⟩)) | exact Or.inl rfl | refine Or.inr ?_)), (by repeat' (first | exact rfl | exact trivial | exact Or.inr (Or.inl ⟨_, rfl⟩) | exact Or.inr ⟨_, rfl⟩ | exact Or.inl ⟨rfl, rfl⟩ | exact Or.inl rfl | refine Or.inr ⟨_, _, rfl, Nat.zero_le _, rfl, ?_⟩ | refine ⟨_, _, rfl, ?_, ?_⟩ | refine ⟨_, rfl, ?_⟩ | refine Or.inr (Or.inr (Or.inr ⟨_, _, rfl, ?_⟩)) | exact Or.inl rfl | refine Or.inr ?_)), chkR_mk (tk := []) (f := (wrongOne h ps depth (m + 1)).1) hS hzz⟩
  have k5 : ¬ h.kind = 5 := of_decide_eq_false k5
  refine br (fun k6 => ?_) (fun k6 => ?_)
  · have k5' : h.kind = 5 ∨ h.kind = 6 := .inr (of_decide_eq_true k6)
    rw [if_neg (by omega), if_neg (by omega), if_pos k5'] at hS
    refine call_o (enters_of Tryz.func167 (by decide +kernel) rfl) rfl rfl (cs' := [.v (.int .i64 (m + 1))]) (by repeat' (first | exact rfl | exact trivial | exact Or.inr (Or.inl ⟨_, rfl⟩) | exact Or.inr ⟨_, rfl⟩ | exact Or.inl ⟨rfl, rfl⟩ | exact Or.inl rfl | refine Or.inr ⟨_, _, rfl, Nat.zero_le _, rfl, ?_⟩ | refine ⟨_, _, rfl, ?_, ?_⟩ | refine ⟨_, rfl, ?_⟩ | exact congrArg (fun z => DV.v (.int .i64 z)) hmw | refine Or.inr (Or.inr (Or.inr ⟨_, _, rfl, ?_⟩)) | exact Or.inl rfl | refine Or.inr ?_)) (by repeat' (first | exact rfl | exact trivial | exact Or.inr (Or.inl ⟨_, rfl⟩) | exact Or.inr ⟨_, rfl⟩ | exact Or.inl ⟨rfl, rfl⟩ | exact Or.inl rfl | refine Or.inr ⟨_, _, rfl, Nat.zero_le _, rfl, ?_⟩ | refine ⟨_, _, rfl, ?_, ?_⟩ | refine ⟨_, rfl, ?_⟩ | refine Or.inr (Or.inr (Or.inr ⟨_, _, rfl, ?_⟩)) | exact Or.inl rfl | refine Or.inr ?_)) (kone_spec k ih h ps depth (m + 1) hk hbig hd0 (by omega) (by omega) (by omega)) chkR_cl (fun r cs2 hr => ?_)
    obtain ⟨rfl, z, hz, hzz⟩ := hr
    simp only [List.cons.injEq, and_true] at hz
    subst hz
    exact ⟨_, _, (by repeat' (first | exact rfl | exact trivial | exact Or.inr (Or.inl ⟨_, rfl⟩) | exact Or.inr ⟨_, rfl⟩ | exact Or.inl ⟨rfl, rfl⟩ | exact Or.inl rfl | refine Or.inr ⟨_, _, rfl, Nat.zero_le _, rfl, ?_⟩ | refine ⟨_, _, rfl, ?_, ?_⟩ | refine ⟨_, rfl, ?_⟩ | refine Or.inr (Or.inr (Or.inr ⟨_, _, rfl, ?_⟩)) | exact Or.inl rfl | refine Or.inr ?_)), (by repeat' (first | exact rfl | exact trivial | exact Or.inr (Or.inl ⟨_, rfl⟩) | exact Or.inr ⟨_, rfl⟩ | exact Or.inl ⟨rfl, rfl⟩ | exact Or.inl rfl | refine Or.inr ⟨_, _, rfl, Nat.zero_le _, rfl, ?_⟩ | refine ⟨_, _, rfl, ?_, ?_⟩ | refine ⟨_, rfl, ?_⟩ | refine Or.inr (Or.inr (Or.inr ⟨_, _, rfl, ?_⟩)) | exact Or.inl rfl | refine Or.inr ?_)), chkR_mk (tk := []) (f := (wrongOne h ps depth (m + 1)).1) hS hzz⟩
  have k6 : ¬ h.kind = 6 := of_decide_eq_false k6
  have hP : partsF h ps depth (m + 1) = partsF h ps depth (m + 1) := rfl
  conv at hP => lhs; unfold partsF
  refine br (fun k7 => ?_) (fun k7 => ?_)
  · have k7' : h.kind = 7 ∨ h.kind = 8 := .inl (of_decide_eq_true k7)
    rw [if_neg (by omega), if_neg (by omega), if_neg (by omega), if_pos k7', hP] at hS
    refine br (fun _ => ?_) (fun hc => by rw [k7] at hc; cases hc)
    refine call_o (enters_of Tryz.func168 (by decide +kernel) rfl) rfl rfl (cs' := [.v (.int .i64 (m + 1))]) (by repeat' (first | exact rfl | exact trivial | exact Or.inr (Or.inl ⟨_, rfl⟩) | exact Or.inr ⟨_, rfl⟩ | exact Or.inl ⟨rfl, rfl⟩ | exact Or.inl rfl | refine Or.inr ⟨_, _, rfl, Nat.zero_le _, rfl, ?_⟩ | refine ⟨_, _, rfl, ?_, ?_⟩ | refine ⟨_, rfl, ?_⟩ | exact congrArg (fun z => DV.v (.int .i64 z)) hmw | refine Or.inr (Or.inr (Or.inr ⟨_, _, rfl, ?_⟩)) | exact Or.inl rfl | refine Or.inr ?_)) (by repeat' (first | exact rfl | exact trivial | exact Or.inr (Or.inl ⟨_, rfl⟩) | exact Or.inr ⟨_, rfl⟩ | exact Or.inl ⟨rfl, rfl⟩ | exact Or.inl rfl | refine Or.inr ⟨_, _, rfl, Nat.zero_le _, rfl, ?_⟩ | refine ⟨_, _, rfl, ?_, ?_⟩ | refine ⟨_, rfl, ?_⟩ | refine Or.inr (Or.inr (Or.inr ⟨_, _, rfl, ?_⟩)) | exact Or.inl rfl | refine Or.inr ?_)) (kparts_spec k ih h ps depth (m + 1) k7' hk hbig hd0 (by omega) (by omega) (by omega)) chkR_cl (fun r cs2 hr => ?_)
    obtain ⟨rfl, z, hz, hzz⟩ := hr
    simp only [List.cons.injEq, and_true] at hz
    subst hz
    exact ⟨_, _, (by repeat' (first | exact rfl | exact trivial | exact Or.inr (Or.inl ⟨_, rfl⟩) | exact Or.inr ⟨_, rfl⟩ | exact Or.inl ⟨rfl, rfl⟩ | exact Or.inl rfl | refine Or.inr ⟨_, _, rfl, Nat.zero_le _, rfl, ?_⟩ | refine ⟨_, _, rfl, ?_, ?_⟩ | refine ⟨_, rfl, ?_⟩ | refine Or.inr (Or.inr (Or.inr ⟨_, _, rfl, ?_⟩)) | exact Or.inl rfl | refine Or.inr ?_)), (by repeat' (first | exact rfl | exact trivial | exact Or.inr (Or.inl ⟨_, rfl⟩) | exact Or.inr ⟨_, rfl⟩ | exact Or.inl ⟨rfl, rfl⟩ | exact Or.inl rfl | refine Or.inr ⟨_, _, rfl, Nat.zero_le _, rfl, ?_⟩ | refine ⟨_, _, rfl, ?_, ?_⟩ | refine ⟨_, rfl, ?_⟩ | refine Or.inr (Or.inr (Or.inr ⟨_, _, rfl, ?_⟩)) | exact Or.inl rfl | refine Or.inr ?_)), chkR_mk (tk := []) (f := (partsF h ps depth (m + 1)).1) hS hzz⟩
  have k7 : ¬ h.kind = 7 := of_decide_eq_false k7
  refine br (fun k8 => ?_) (fun k8 => ?_)
  · have k7' : h.kind = 7 ∨ h.kind = 8 := .inr (of_decide_eq_true k8)
    rw [if_neg (by omega), if_neg (by omega), if_neg (by omega), if_pos k7', hP] at hS
    refine call_o (enters_of Tryz.func168 (by decide +kernel) rfl) rfl rfl (cs' := [.v (.int .i64 (m + 1))]) (by repeat' (first | exact rfl | exact trivial | exact Or.inr (Or.inl ⟨_, rfl⟩) | exact Or.inr ⟨_, rfl⟩ | exact Or.inl ⟨rfl, rfl⟩ | exact Or.inl rfl | refine Or.inr ⟨_, _, rfl, Nat.zero_le _, rfl, ?_⟩ | refine ⟨_, _, rfl, ?_, ?_⟩ | refine ⟨_, rfl, ?_⟩ | exact congrArg (fun z => DV.v (.int .i64 z)) hmw | refine Or.inr (Or.inr (Or.inr ⟨_, _, rfl, ?_⟩)) | exact Or.inl rfl | refine Or.inr ?_)) (by repeat' (first | exact rfl | exact trivial | exact Or.inr (Or.inl ⟨_, rfl⟩) | exact Or.inr ⟨_, rfl⟩ | exact Or.inl ⟨rfl, rfl⟩ | exact Or.inl rfl | refine Or.inr ⟨_, _, rfl, Nat.zero_le _, rfl, ?_⟩ | refine ⟨_, _, rfl, ?_, ?_⟩ | refine ⟨_, rfl, ?_⟩ | refine Or.inr (Or.inr (Or.inr ⟨_, _, rfl, ?_⟩)) | exact Or.inl rfl | refine Or.inr ?_)) (kparts_spec k ih h ps depth (m + 1) k7' hk hbig hd0 (by omega) (by omega) (by omega)) chkR_cl (fun r cs2 hr => ?_)
    obtain ⟨rfl, z, hz, hzz⟩ := hr
    simp only [List.cons.injEq, and_true] at hz
    subst hz
    exact ⟨_, _, (by repeat' (first | exact rfl | exact trivial | exact Or.inr (Or.inl ⟨_, rfl⟩) | exact Or.inr ⟨_, rfl⟩ | exact Or.inl ⟨rfl, rfl⟩ | exact Or.inl rfl | refine Or.inr ⟨_, _, rfl, Nat.zero_le _, rfl, ?_⟩ | refine ⟨_, _, rfl, ?_, ?_⟩ | refine ⟨_, rfl, ?_⟩ | refine Or.inr (Or.inr (Or.inr ⟨_, _, rfl, ?_⟩)) | exact Or.inl rfl | refine Or.inr ?_)), (by repeat' (first | exact rfl | exact trivial | exact Or.inr (Or.inl ⟨_, rfl⟩) | exact Or.inr ⟨_, rfl⟩ | exact Or.inl ⟨rfl, rfl⟩ | exact Or.inl rfl | refine Or.inr ⟨_, _, rfl, Nat.zero_le _, rfl, ?_⟩ | refine ⟨_, _, rfl, ?_, ?_⟩ | refine ⟨_, rfl, ?_⟩ | refine Or.inr (Or.inr (Or.inr ⟨_, _, rfl, ?_⟩)) | exact Or.inl rfl | refine Or.inr ?_)), chkR_mk (tk := []) (f := (partsF h ps depth (m + 1)).1) hS hzz⟩
  have k8 : ¬ h.kind = 8 := of_decide_eq_false k8
  refine br (fun k9 => ?_) (fun k9 => ?_)
  · have k9 : h.kind = 9 := of_decide_eq_true k9
    refine call_p (enters_of Tryz.func75 (by decide +kernel) rfl) (right_spec h.name.s (by simp only [Wd.wt] at hbig'; omega)) (by repeat' (first | exact rfl | exact trivial | exact Or.inr (Or.inl ⟨_, rfl⟩) | exact Or.inr ⟨_, rfl⟩ | exact Or.inl ⟨rfl, rfl⟩ | exact Or.inl rfl | refine Or.inr ⟨_, _, rfl, Nat.zero_le _, rfl, ?_⟩ | refine ⟨_, _, rfl, ?_, ?_⟩ | refine ⟨_, rfl, ?_⟩ | refine Or.inr (Or.inr (Or.inr ⟨_, _, rfl, ?_⟩)) | exact Or.inl rfl | refine Or.inr ?_)) rfl ?_
    refine br (fun q => ?_) (fun q => ?_)
    · have q : nameOK h.name.s = false := by simpa using q
      rw [if_pos ⟨k9, q⟩] at hS
      refine call_p (enters_of Tryz.func164 (by decide +kernel) rfl) (bad_spec 9 h.name.a) (by repeat' (first | exact rfl | exact trivial | exact Or.inr (Or.inl ⟨_, rfl⟩) | exact Or.inr ⟨_, rfl⟩ | exact Or.inl ⟨rfl, rfl⟩ | exact Or.inl rfl | refine Or.inr ⟨_, _, rfl, Nat.zero_le _, rfl, ?_⟩ | refine ⟨_, _, rfl, ?_, ?_⟩ | refine ⟨_, rfl, ?_⟩ | refine Or.inr (Or.inr (Or.inr ⟨_, _, rfl, ?_⟩)) | exact Or.inl rfl | refine Or.inr ?_)) rfl ?_
      exact ⟨_, [[.v (.int .i64 (m + 1))]], (by repeat' (first | exact rfl | exact trivial | exact Or.inr (Or.inl ⟨_, rfl⟩) | exact Or.inr ⟨_, rfl⟩ | exact Or.inl ⟨rfl, rfl⟩ | exact Or.inl rfl | refine Or.inr ⟨_, _, rfl, Nat.zero_le _, rfl, ?_⟩ | refine ⟨_, _, rfl, ?_, ?_⟩ | refine ⟨_, rfl, ?_⟩ | refine Or.inr (Or.inr (Or.inr ⟨_, _, rfl, ?_⟩)) | exact Or.inl rfl | refine Or.inr ?_)), (by repeat' (first | exact rfl | exact trivial | exact Or.inr (Or.inl ⟨_, rfl⟩) | exact Or.inr ⟨_, rfl⟩ | exact Or.inl ⟨rfl, rfl⟩ | exact Or.inl rfl | refine Or.inr ⟨_, _, rfl, Nat.zero_le _, rfl, ?_⟩ | refine ⟨_, _, rfl, ?_, ?_⟩ | refine ⟨_, rfl, ?_⟩ | exact congrArg (fun z => DV.v (.int .i64 z)) hmw | refine Or.inr (Or.inr (Or.inr ⟨_, _, rfl, ?_⟩)) | exact Or.inl rfl | refine Or.inr ?_)), chkR_mk (tk := []) (f := (9, h.name.a)) hS (fun _ => rfl)⟩
    · have q : nameOK h.name.s = true := by simpa using q
      rw [if_neg (by simp [q]), if_neg (by omega), if_neg (by omega), if_neg (by omega)] at hS
      exact ⟨_, [[.v (.int .i64 (m + 1))]], (by repeat' (first | exact rfl | exact trivial | exact Or.inr (Or.inl ⟨_, rfl⟩) | exact Or.inr ⟨_, rfl⟩ | exact Or.inl ⟨rfl, rfl⟩ | exact Or.inl rfl | refine Or.inr ⟨_, _, rfl, Nat.zero_le _, rfl, ?_⟩ | refine ⟨_, _, rfl, ?_, ?_⟩ | refine ⟨_, rfl, ?_⟩ | refine Or.inr (Or.inr (Or.inr ⟨_, _, rfl, ?_⟩)) | exact Or.inl rfl | refine Or.inr ?_)), (by repeat' (first | exact rfl | exact trivial | exact Or.inr (Or.inl ⟨_, rfl⟩) | exact Or.inr ⟨_, rfl⟩ | exact Or.inl ⟨rfl, rfl⟩ | exact Or.inl rfl | refine Or.inr ⟨_, _, rfl, Nat.zero_le _, rfl, ?_⟩ | refine ⟨_, _, rfl, ?_, ?_⟩ | refine ⟨_, rfl, ?_⟩ | exact congrArg (fun z => DV.v (.int .i64 z)) hmw | refine Or.inr (Or.inr (Or.inr ⟨_, _, rfl, ?_⟩)) | exact Or.inl rfl | refine Or.inr ?_)), chkR_mk (tk := []) (f := (0, 0)) hS (fun _ => rfl)⟩
  have k9 : ¬ h.kind = 9 := of_decide_eq_false k9
  rw [if_neg (by omega), if_neg (by omega), if_neg (by omega), if_neg (by omega)] at hS
  exact ⟨_, [[.v (.int .i64 (m + 1))]], (by repeat' (first | exact rfl | exact trivial | exact Or.inr (Or.inl ⟨_, rfl⟩) | exact Or.inr ⟨_, rfl⟩ | exact Or.inl ⟨rfl, rfl⟩ | exact Or.inl rfl | refine Or.inr ⟨_, _, rfl, Nat.zero_le _, rfl, ?_⟩ | refine ⟨_, _, rfl, ?_, ?_⟩ | refine ⟨_, rfl, ?_⟩ | refine Or.inr (Or.inr (Or.inr ⟨_, _, rfl, ?_⟩)) | exact Or.inl rfl | refine Or.inr ?_)), (by repeat' (first | exact rfl | exact trivial | exact Or.inr (Or.inl ⟨_, rfl⟩) | exact Or.inr ⟨_, rfl⟩ | exact Or.inl ⟨rfl, rfl⟩ | exact Or.inl rfl | refine Or.inr ⟨_, _, rfl, Nat.zero_le _, rfl, ?_⟩ | refine ⟨_, _, rfl, ?_, ?_⟩ | refine ⟨_, rfl, ?_⟩ | exact congrArg (fun z => DV.v (.int .i64 z)) hmw | refine Or.inr (Or.inr (Or.inr ⟨_, _, rfl, ?_⟩)) | exact Or.inl rfl | refine Or.inr ?_)), chkR_mk (tk := []) (f := (0, 0)) hS (fun _ => rfl)⟩

theorem kchk_any : ∀ k, KChk k
  | 0 => fun t depth m hk => by have := t.wt_pos; omega
  | k + 1 => fun t depth m hk hbig hd0 hd1 hm0 hm1 => by
    obtain ⟨h, ps⟩ := t
    have hk' := hk
    simp only [Ty.wt, Hd.wt] at hk'
    exact kcheck_step k (kchk_any k) h ps depth m (by omega) hbig hd0 hd1 hm0 hm1

/-- **kinds.Right.** -/
theorem kright_spec (t : Ty) (hbig : t.wt ≤ 1099511627776) : EvP Tryz.prog 71 [.agg (dTy t)] (wrong t 1 0).1.d :=
  kright_of t (kchk_any t.wt t 1 0 (Nat.le_refl _) hbig (by omega) (by omega) (by omega) (by omega))

/-- **unparse.Type.** -/
theorem utype_spec (t : Ty) (hbig : t.wt ≤ 1099511627776) (hr : rngT t) : EvP Tryz.prog 18 [.agg (dTy t)] (.v (.string (typeT t))) :=
  utype_of t hbig (wrong_fine t 1 0 hr) (kchk_any t.wt t 1 0 (Nat.le_refl _) hbig (by omega) (by omega) (by omega) (by omega))
end Go.Proofs.YtmphiikdhifhjaaGreat
set_option maxRecDepth 100000
namespace Go.Proofs.YtmphiikdhifhjaaGreat
open Go Go.RowKit Dv Tryz

/-! ### Plain -/
def tyOK (t : Ty) : Bool := decide ((wrong t 1 0).1.1 = 0)
def rightB (s : Sch) : Bool :=
  (((decide (s.levels ≠ []) && s.levels.all fun w => nameOK w.s) && s.order.all fun p => nameOK p.1.s && nameOK p.2.s) && s.types.all fun x => nameOK x.1.s && tyOK x.2) && tyOK s.root
def prT (p : Wd × Wd) : List UInt8 := tx p.1.s ++ [32, 60, 32] ++ tx p.2.s
def nmT (x : Wd × Ty) : List UInt8 := [32, 116, 121, 112, 101, 32] ++ tx x.1.s ++ [32, 61, 32] ++ tyT x.2
def headS (s : Sch) : List UInt8 := [108, 101, 118, 101, 108, 115, 32, 123] ++ joinT [] [44, 32] (s.levels.map wdT) ++ [125, 32, 111, 114, 100, 101, 114, 32, 123]
def ordS (s : Sch) : List UInt8 := joinT [] [44, 32] (s.order.map prT) ++ [125]
def fmtT (s : Sch) : List UInt8 := headS s ++ ordS s ++ (s.types.map nmT).flatten ++ ([32, 114, 111, 111, 116, 32] ++ tyT s.root)

theorem jl_prs : ∀ l : List (Wd × Wd), jl (l.map prT) ≤ prsWt l
  | [] => Nat.le_refl _
  | p :: r => by
    have := jl_prs r
    simp only [List.map_cons, jl, prsWt, Wd.wt, prT, List.length_append, tx_len, List.length_cons, List.length_nil]
    omega

/-! ### The program's -/
theorem bad1_spec (w : Wd) (hs : w.s.size ≤ 1099511627776) : EvP Tryz.prog 74 [.agg (dWd w)] (.v (.bool (!nameOK w.s))) := by
  refine ev_go (P := Tryz.prog) tt tt_ok 5000 7 [.tmp 2] Tryz.func74 rfl Tryz.ntmps74 rfl (Nat.le_of_ble_eq_true rfl) (fun E9 w9 hn9 hm9 => ?_)
  refine call_p (enters_of Tryz.func75 (by decide +kernel) rfl) (right_spec w.s (by omega)) (by repeat' (first | exact rfl | exact trivial | exact Or.inr (Or.inl ⟨_, rfl⟩) | exact Or.inr ⟨_, rfl⟩ | exact Or.inl ⟨rfl, rfl⟩ | exact Or.inl rfl | refine Or.inr ⟨_, _, rfl, Nat.zero_le _, rfl, ?_⟩ | refine ⟨_, _, rfl, ?_, ?_⟩ | refine ⟨_, rfl, ?_⟩ | refine Or.inr (Or.inr (Or.inr ⟨_, _, rfl, ?_⟩)) | exact Or.inl rfl | refine Or.inr ?_)) rfl ?_
  exact (rfl : _ = _)

abbrev idxSt (l : List Wd) (e : Nat) (z : Int) : St :=
  ⟨[(0, ⟨[], .sl 2 (dWds l) none⟩), (1, ⟨[], .fn 74 [] []⟩), (7, ⟨[], .v (.int .i64 (dWds l).length)⟩), (8, ⟨[], .v (.int .i64 e)⟩)], [], []⟩

theorem index_spec (l : List Wd) (hs : wdsWt l ≤ 1099511627776) : Ev Tryz.prog 131 [.sl 2 (dWds l) none, .fn 74 [] []] [] []
    (fun d _ _ => ∃ z : Int, d = .v (.int .i64 z) ∧ ((l.all fun w => nameOK w.s) = true → z = -1) ∧ ((l.all fun w => nameOK w.s) = false → 0 ≤ z)) := by
  have hl := wdsWt_len l
  refine ev_go (P := Tryz.prog) tt tt_ok 5000 19 [.tmp 4] Tryz.func131 rfl Tryz.ntmps131 rfl (Nat.le_of_ble_eq_true rfl) (fun E9 w9 hn9 hm9 => ?_)
  refine loop_i (fun j st => ∃ e : Nat, st = idxSt l e 0 ∧ e ≤ l.length ∧ (l.all fun w => nameOK w.s) = ((l.drop e).all fun w => nameOK w.s) ∧ j = l.length - e) l.length (idxSt l 0 0) (weak_mk ⟨_, rfl⟩ (by repeat' (first | exact rfl | exact we_rfl rfl | refine ⟨_, _, rfl, ?_, ?_⟩)) rfl rfl rfl (by repeat' (first | exact trivial | exact we_rfl rfl | refine ⟨⟨_, rfl, ?_⟩, ?_⟩))) ⟨0, rfl, by omega, rfl, by omega⟩ ?_
  rintro j st ⟨e, rfl, he, heq, rfl⟩
  refine br (fun h => ?_) (fun h => ?_)
  · have hlt : e < l.length := by have := h; simp [dWds_len] at this; exact this
    obtain ⟨w, hw⟩ : ∃ w, l[e]? = some w := ⟨_, List.getElem?_eq_getElem hlt⟩
    have hws := wdsWt_mem (List.mem_of_getElem? hw)
    rw [drop_cons hw] at heq
    refine ⟨dWd w, ⟨by omega, dWds_get hw⟩, ?_⟩
    refine call_p (enters_of Tryz.func74 (by decide +kernel) rfl) (bad1_spec w (by omega)) (by repeat' (first | exact rfl | exact trivial | exact Or.inr (Or.inl ⟨_, rfl⟩) | exact Or.inr ⟨_, rfl⟩ | exact Or.inl ⟨rfl, rfl⟩ | exact Or.inl rfl | refine Or.inr ⟨_, _, rfl, Nat.zero_le _, rfl, ?_⟩ | refine ⟨_, _, rfl, ?_, ?_⟩ | refine ⟨_, rfl, ?_⟩ | refine Or.inr (Or.inr (Or.inr ⟨_, _, rfl, ?_⟩)) | exact Or.inl rfl | refine Or.inr ?_)) rfl ?_
    refine br (fun hb => ?_) (fun hb => ?_)
    · have hb : nameOK w.s = false := by simpa using hb
      refine ⟨_, rfl, fun hc => ?_, fun _ => by omega⟩
      rw [heq, List.all_cons, hb] at hc
      cases hc
    · have hb : nameOK w.s = true := by simpa using hb
      refine ⟨idxSt l (e + 1) 0, (weak_mk ⟨_, rfl⟩ (by repeat' (first | exact rfl | exact we_rfl rfl | refine ⟨_, _, rfl, ?_, ?_⟩)) rfl rfl rfl (by repeat' (first | exact trivial | exact we_rfl rfl | exact we_int (nxt hlt (by omega)) | refine ⟨⟨_, rfl, ?_⟩, ?_⟩))), l.length - (e + 1), by omega, e + 1, rfl, by omega, ?_, rfl⟩
      rw [heq, List.all_cons, hb, Bool.true_and]
  · have hge : e = l.length := by have := h; simp [dWds_len] at this; omega
    refine ⟨-1, rfl, fun _ => rfl, fun hc => ?_⟩
    rw [heq, hge, List.drop_length] at hc
    cases hc

theorem contains_spec (l : List Wd) (hs : wdsWt l ≤ 1099511627776) : EvP Tryz.prog 76 [.sl 2 (dWds l) none, .fn 74 [] []] (.v (.bool (!(l.all fun w => nameOK w.s)))) := by
  have hi := index_spec l hs
  refine ev_go (P := Tryz.prog) tt tt_ok 5000 9 [.tmp 4] Tryz.func76 rfl Tryz.ntmps76 rfl (Nat.le_of_ble_eq_true rfl) (fun E9 w9 hn9 hm9 => ?_)
  refine call_e (enters_of Tryz.func131 (by decide +kernel) rfl) rfl hi (by repeat' (first | exact rfl | exact trivial | exact Or.inr (Or.inl ⟨_, rfl⟩) | exact Or.inr ⟨_, rfl⟩ | exact Or.inl ⟨rfl, rfl⟩ | exact Or.inl rfl | refine Or.inr ⟨_, _, rfl, Nat.zero_le _, rfl, ?_⟩ | refine ⟨_, _, rfl, ?_, ?_⟩ | refine ⟨_, rfl, ?_⟩ | refine Or.inr (Or.inr (Or.inr ⟨_, _, rfl, ?_⟩)) | exact Or.inl rfl | refine Or.inr ?_)) (fun r hr => ?_)
  obtain ⟨z, rfl, h1, h2⟩ := hr
  refine (congrArg (fun b => DV.v (.bool b)) ?_ : _ = _)
  cases hc : l.all fun w => nameOK w.s
  · have := h2 hc
    simp; omega
  · have := h1 hc
    subst this
    rfl

abbrev urightS1 (s : Sch) (e : Nat) : St :=
  ⟨[(1, ⟨[], .loc 0 0⟩), (3, ⟨[], .fn 74 [] []⟩), (19, ⟨[], .sl 4 (dPrs s.order) none⟩), (20, ⟨[], .v (.int .i64 (dPrs s.order).length)⟩), (21, ⟨[], .v (.int .i64 e)⟩)], [dSch s], []⟩
abbrev urightS2 (s : Sch) (e : Nat) : St :=
  ⟨[(1, ⟨[], .loc 0 0⟩), (3, ⟨[], .fn 74 [] []⟩), (37, ⟨[], .sl 11 (dNms s.types) none⟩), (38, ⟨[], .v (.int .i64 (dNms s.types).length)⟩), (39, ⟨[], .v (.int .i64 e)⟩)], [dSch s], []⟩

theorem uright_spec (s : Sch) (hbig : s.wt ≤ 1099511627776) : EvP Tryz.prog 22 [.agg (dSch s)] (.v (.bool (rightB s))) := by
  have h1 := wdsWt_len s.levels
  have h2 := prsWt_len s.order
  have h3 := nmsWt_len s.types
  simp only [Sch.wt] at hbig
  have hroot := kright_spec s.root (by omega)
  have hcon := contains_spec s.levels (by omega)
  have hF : rightB s = ((((decide (s.levels ≠ []) && s.levels.all fun w => nameOK w.s) && s.order.all fun p => nameOK p.1.s && nameOK p.2.s) && s.types.all fun x => nameOK x.1.s && tyOK x.2) && tyOK s.root) := rfl
  have hT : tyOK s.root = decide ((wrong s.root 1 0).1.1 = 0) := rfl
  generalize rightB s = F at hF ⊢
  obtain ⟨levels, order, types, ⟨h, ps⟩⟩ := s
  simp only at h1 h2 h3 hbig hroot hcon hF hT
  refine ev_go (P := Tryz.prog) tt tt_ok 5000 60 [.tmp 2] Tryz.func22 rfl Tryz.ntmps22 rfl (Nat.le_of_ble_eq_true rfl) (fun E9 w9 hn9 hm9 => ?_)
  refine br (fun g => ?_) (fun g => ?_)
  · have h0 : levels ≠ [] := by
      rintro rfl
      simp [dWds_len] at g
    have hd0 : decide (levels ≠ []) = true := decide_eq_true h0
    rw [hd0, Bool.true_and] at hF
    refine call_p (enters_of Tryz.func76 (by decide +kernel) rfl) (hcon) (by repeat' (first | exact rfl | exact trivial | exact Or.inr (Or.inl ⟨_, rfl⟩) | exact Or.inr ⟨_, rfl⟩ | exact Or.inl ⟨rfl, rfl⟩ | exact Or.inl rfl | refine Or.inr ⟨_, _, rfl, Nat.zero_le _, rfl, ?_⟩ | refine ⟨_, _, rfl, ?_, ?_⟩ | refine ⟨_, rfl, ?_⟩ | refine Or.inr (Or.inr (Or.inr ⟨_, _, rfl, ?_⟩)) | exact Or.inl rfl | refine Or.inr ?_)) rfl ?_
    refine br (fun c => ?_) (fun c => ?_)
    · have c : (levels.all fun w => nameOK w.s) = false := by simpa [pickB] using c
      refine (congrArg (fun b => DV.v (.bool b)) ?_ : _ = _)
      rw [hF, c]; rfl
    have c : (levels.all fun w => nameOK w.s) = true := by simpa [pickB] using c
    rw [c, Bool.true_and] at hF
    refine loop_i (fun j st => ∃ e : Nat, st = urightS1 ⟨levels, order, types, .mk h ps⟩ e ∧ e ≤ order.length ∧ F = ((((order.drop e).all fun p => nameOK p.1.s && nameOK p.2.s) && types.all fun x => nameOK x.1.s && tyOK x.2) && tyOK (.mk h ps)) ∧ j = order.length - e) order.length
      (urightS1 ⟨levels, order, types, .mk h ps⟩ 0) (weak_mk ⟨_, rfl⟩ (by repeat' (first | exact rfl | exact we_rfl rfl | refine ⟨_, _, rfl, ?_, ?_⟩)) rfl rfl rfl (by repeat' (first | exact trivial | exact we_rfl rfl | refine ⟨⟨_, rfl, ?_⟩, ?_⟩))) ⟨0, rfl, by omega, hF, by omega⟩ ?_
    rintro j st ⟨e, rfl, he, heq, rfl⟩
    refine br (fun hL => ?_) (fun hL => ?_)
    · have hlt : e < order.length := by have := hL; simp [dPrs_len] at this; exact this
      obtain ⟨w, hw⟩ : ∃ w, order[e]? = some w := ⟨_, List.getElem?_eq_getElem hlt⟩
      have hws := prsWt_mem (List.mem_of_getElem? hw)
      simp only [Wd.wt] at hws
      rw [drop_cons hw, List.all_cons] at heq
      refine ⟨_, ⟨by omega, dPrs_get hw⟩, ?_⟩
      refine call_p (enters_of Tryz.func74 (by decide +kernel) rfl) (bad1_spec w.1 (by omega)) (by repeat' (first | exact rfl | exact trivial | exact Or.inr (Or.inl ⟨_, rfl⟩) | exact Or.inr ⟨_, rfl⟩ | exact Or.inl ⟨rfl, rfl⟩ | exact Or.inl rfl | refine Or.inr ⟨_, _, rfl, Nat.zero_le _, rfl, ?_⟩ | refine ⟨_, _, rfl, ?_, ?_⟩ | refine ⟨_, rfl, ?_⟩ | refine Or.inr (Or.inr (Or.inr ⟨_, _, rfl, ?_⟩)) | exact Or.inl rfl | refine Or.inr ?_)) rfl ?_
      refine br (fun b1 => ?_) (fun b1 => ?_)
      · have b1 : nameOK w.1.s = true := by simpa using b1
        refine call_p (enters_of Tryz.func74 (by decide +kernel) rfl) (bad1_spec w.2 (by omega)) (by repeat' (first | exact rfl | exact trivial | exact Or.inr (Or.inl ⟨_, rfl⟩) | exact Or.inr ⟨_, rfl⟩ | exact Or.inl ⟨rfl, rfl⟩ | exact Or.inl rfl | refine Or.inr ⟨_, _, rfl, Nat.zero_le _, rfl, ?_⟩ | refine ⟨_, _, rfl, ?_, ?_⟩ | refine ⟨_, rfl, ?_⟩ | refine Or.inr (Or.inr (Or.inr ⟨_, _, rfl, ?_⟩)) | exact Or.inl rfl | refine Or.inr ?_)) rfl ?_
        refine br (fun b2 => ?_) (fun b2 => ?_)
        · have b2 : nameOK w.2.s = false := by simpa [pickB] using b2
          refine (congrArg (fun b => DV.v (.bool b)) ?_ : _ = _)
          rw [heq, b1, b2]; rfl
        · have b2 : nameOK w.2.s = true := by simpa [pickB] using b2
          rw [b1, b2, Bool.true_and, Bool.true_and] at heq
          exact ⟨urightS1 ⟨levels, order, types, .mk h ps⟩ (e + 1), (weak_mk ⟨_, rfl⟩ (by repeat' (first | exact rfl | exact we_rfl rfl | refine ⟨_, _, rfl, ?_, ?_⟩)) rfl rfl rfl (by repeat' (first | exact trivial | exact we_rfl rfl | exact we_int (nxt hlt (by omega)) | refine ⟨⟨_, rfl, ?_⟩, ?_⟩))), order.length - (e + 1), by omega, e + 1, rfl, by omega, heq, rfl⟩
      · have b1 : nameOK w.1.s = false := by simpa using b1
        refine (congrArg (fun b => DV.v (.bool b)) ?_ : _ = _)
        rw [heq, b1]; rfl
    have hge : e = order.length := by have := hL; simp [dPrs_len] at this; omega
    rw [hge, List.drop_length, List.all_nil, Bool.true_and] at heq
    refine loop_i (fun j st => ∃ e : Nat, st = urightS2 ⟨levels, order, types, .mk h ps⟩ e ∧ e ≤ types.length ∧ F = (((types.drop e).all fun x => nameOK x.1.s && tyOK x.2) && tyOK (.mk h ps)) ∧ j = types.length - e) types.length
      (urightS2 ⟨levels, order, types, .mk h ps⟩ 0) (weak_mk ⟨_, rfl⟩ (by repeat' (first | exact rfl | exact we_rfl rfl | refine ⟨_, _, rfl, ?_, ?_⟩)) rfl rfl rfl (by repeat' (first | exact trivial | exact we_rfl rfl | refine ⟨⟨_, rfl, ?_⟩, ?_⟩))) ⟨0, rfl, by omega, heq, by omega⟩ ?_
    clear heq hge he hL
    rintro j st ⟨e, rfl, he, heq, rfl⟩
    refine br (fun hL => ?_) (fun hL => ?_)
    · have hlt : e < types.length := by have := hL; simp [dNms_len] at this; exact this
      obtain ⟨w, hw⟩ : ∃ w, types[e]? = some w := ⟨_, List.getElem?_eq_getElem hlt⟩
      have hws := nmsWt_mem (List.mem_of_getElem? hw)
      simp only [Wd.wt] at hws
      rw [drop_cons hw, List.all_cons] at heq
      have hr := kright_spec w.2 (by omega)
      have hty : tyOK w.2 = decide ((wrong w.2 1 0).1.1 = 0) := rfl
      obtain ⟨w, u, us⟩ := w
      simp only at hws heq hr hty
      refine ⟨_, ⟨by omega, dNms_get hw⟩, ?_⟩
      refine call_p (enters_of Tryz.func74 (by decide +kernel) rfl) (bad1_spec w (by omega)) (by repeat' (first | exact rfl | exact trivial | exact Or.inr (Or.inl ⟨_, rfl⟩) | exact Or.inr ⟨_, rfl⟩ | exact Or.inl ⟨rfl, rfl⟩ | exact Or.inl rfl | refine Or.inr ⟨_, _, rfl, Nat.zero_le _, rfl, ?_⟩ | refine ⟨_, _, rfl, ?_, ?_⟩ | refine ⟨_, rfl, ?_⟩ | refine Or.inr (Or.inr (Or.inr ⟨_, _, rfl, ?_⟩)) | exact Or.inl rfl | refine Or.inr ?_)) rfl ?_
      refine br (fun b1 => ?_) (fun b1 => ?_)
      · have b1 : nameOK w.s = true := by simpa using b1
        refine call_p (enters_of Tryz.func71 (by decide +kernel) rfl) (hr) (by repeat' (first | exact rfl | exact trivial | exact Or.inr (Or.inl ⟨_, rfl⟩) | exact Or.inr ⟨_, rfl⟩ | exact Or.inl ⟨rfl, rfl⟩ | exact Or.inl rfl | refine Or.inr ⟨_, _, rfl, Nat.zero_le _, rfl, ?_⟩ | refine ⟨_, _, rfl, ?_, ?_⟩ | refine ⟨_, rfl, ?_⟩ | refine Or.inr (Or.inr (Or.inr ⟨_, _, rfl, ?_⟩)) | exact Or.inl rfl | refine Or.inr ?_)) rfl ?_
        refine br (fun b2 => ?_) (fun b2 => ?_)
        · have b2 : ¬ (wrong (.mk u us) 1 0).1.1 = 0 := by simpa [pickB] using b2
          refine (congrArg (fun b => DV.v (.bool b)) ?_ : _ = _)
          rw [heq, b1, hty, decide_eq_false b2]; rfl
        · have b2 : (wrong (.mk u us) 1 0).1.1 = 0 := by simpa [pickB] using b2
          rw [b1, hty, decide_eq_true b2, Bool.true_and, Bool.true_and] at heq
          exact ⟨urightS2 ⟨levels, order, types, .mk h ps⟩ (e + 1), (weak_mk ⟨_, rfl⟩ (by repeat' (first | exact rfl | exact we_rfl rfl | refine ⟨_, _, rfl, ?_, ?_⟩)) rfl rfl rfl (by repeat' (first | exact trivial | exact we_rfl rfl | exact we_int (nxt hlt (by omega)) | refine ⟨⟨_, rfl, ?_⟩, ?_⟩))), types.length - (e + 1), by omega, e + 1, rfl, by omega, heq, rfl⟩
      · have b1 : nameOK w.s = false := by simpa using b1
        refine (congrArg (fun b => DV.v (.bool b)) ?_ : _ = _)
        rw [heq, b1]; rfl
    have hge : e = types.length := by have := hL; simp [dNms_len] at this; omega
    rw [hge, List.drop_length, List.all_nil, Bool.true_and, hT] at heq
    refine call_p (enters_of Tryz.func71 (by decide +kernel) rfl) (hroot) (by repeat' (first | exact rfl | exact trivial | exact Or.inr (Or.inl ⟨_, rfl⟩) | exact Or.inr ⟨_, rfl⟩ | exact Or.inl ⟨rfl, rfl⟩ | exact Or.inl rfl | refine Or.inr ⟨_, _, rfl, Nat.zero_le _, rfl, ?_⟩ | refine ⟨_, _, rfl, ?_, ?_⟩ | refine ⟨_, rfl, ?_⟩ | refine Or.inr (Or.inr (Or.inr ⟨_, _, rfl, ?_⟩)) | exact Or.inl rfl | refine Or.inr ?_)) rfl ?_
    refine (congrArg (fun b => DV.v (.bool b)) ?_ : _ = _)
    rw [heq]
  · have h0 : levels = [] := by
      have := g
      simp [dWds_len] at this
      exact this
    subst h0
    refine (congrArg (fun b => DV.v (.bool b)) ?_ : _ = _)
    rw [hF]; rfl
end Go.Proofs.YtmphiikdhifhjaaGreat
set_option maxRecDepth 100000
namespace Go.Proofs.YtmphiikdhifhjaaGreat
open Go Go.RowKit Dv Tryz

theorem fmt1_spec (p : Wd × Wd) (hs : p.1.s.size + p.2.s.size ≤ 1099511627776) : EvP Tryz.prog 81 [.agg (dPr p)] (.v (.string (ba (prT p)))) := by
  refine ev_go (P := Tryz.prog) tt tt_ok 5000 11 [.tmp 2] Tryz.func81 rfl Tryz.ntmps81 rfl (Nat.le_of_ble_eq_true rfl) (fun E9 w9 hn9 hm9 => ?_)
  refine ⟨by (simp only [sz_app, sz_ba, List.length_cons, List.length_nil]; omega), ?_⟩
  refine ⟨by (simp only [sz_app, sz_ba, List.length_cons, List.length_nil]; omega), ?_⟩
  refine (congrArg (fun s => DV.v (.string s)) (ba_ext ?_) : _ = _)
  simp [prT, tx_app, tx_mk]

theorem listPr_spec (l : List (Wd × Wd)) (hs : prsWt l ≤ 1099511627776) : EvP Tryz.prog 80 [.sl 4 (dPrs l) none, .fn 81 [] []] (.v (.string (ba (joinT [] [44, 32] (l.map prT))))) := by
  have hl := prsWt_len l
  have hj := joinT_len (f := []) (s := [44, 32]) (by simp) (by simp) (l.map prT)
  have hj2 := jl_prs l
  refine ev_go (P := Tryz.prog) tt tt_ok 5000 23 [.tmp 4] Tryz.func80 rfl Tryz.ntmps80 rfl (Nat.le_of_ble_eq_true rfl) (fun E9 w9 hn9 hm9 => ?_)
  refine loop_i (fun j st => ∃ e : Nat, st = listSt 4 (dPrs l) 81 (l.map prT) e e ∧ e ≤ l.length ∧ j = l.length - e) l.length (listSt 4 (dPrs l) 81 (l.map prT) 0 0) (weak_tok ⟨0, 9, 1⟩ rfl ⟨_, rfl⟩ rfl (by repeat' (first | exact rfl | exact we_rfl rfl | refine ⟨_, _, rfl, ?_, ?_⟩)) rfl rfl (by repeat' (first | exact trivial | exact we_rfl rfl | exact we_rfl rfl | exact we_tok (Nat.le_refl _) rfl | refine ⟨⟨_, rfl, ?_⟩, ?_⟩))) ⟨0, rfl, by omega, rfl⟩ ?_
  rintro j st ⟨e, rfl, he, rfl⟩
  refine br (fun h => ?_) (fun h => ?_)
  · have hlt : e < l.length := by have := h; simp [dPrs_len] at this; exact this
    obtain ⟨w, hw⟩ : ∃ w, l[e]? = some w := ⟨_, List.getElem?_eq_getElem hlt⟩
    have hws := prsWt_mem (List.mem_of_getElem? hw)
    simp only [Wd.wt] at hws
    have hw2 : (l.map prT)[e]? = some (prT w) := by simp [hw]
    refine ⟨dPr w, ⟨by omega, dPrs_get hw⟩, ?_⟩
    refine call_p (enters_of Tryz.func81 (by decide +kernel) rfl) (fmt1_spec w (by omega)) (by repeat' (first | exact rfl | exact trivial | exact Or.inr (Or.inl ⟨_, rfl⟩) | exact Or.inr ⟨_, rfl⟩ | exact Or.inl ⟨rfl, rfl⟩ | exact Or.inl rfl | refine Or.inr ⟨_, _, rfl, Nat.zero_le _, rfl, ?_⟩ | refine ⟨_, _, rfl, ?_, ?_⟩ | refine ⟨_, rfl, ?_⟩ | refine Or.inr (Or.inr (Or.inr ⟨_, _, rfl, ?_⟩)) | exact Or.inl rfl | refine Or.inr ?_)) rfl ?_
    refine ⟨by simp [dStrs_len]; omega, ⟨by simp [dStrs_len, maxLen]; omega, by simp [dStrs_len]; omega⟩, ?_⟩
    refine ⟨listSt 4 (dPrs l) 81 (l.map prT) (e + 1) (e + 1), (weak_mk ⟨_, rfl⟩ (by repeat' (first | exact rfl | exact we_rfl rfl | refine ⟨_, _, rfl, ?_, ?_⟩)) rfl rfl rfl (by repeat' (first | exact trivial | exact we_rfl rfl | exact we_int (nxt hlt (by omega)) | exact we_sl (dStrs_snoc' hw2) rfl | refine ⟨⟨_, rfl, ?_⟩, ?_⟩))), l.length - (e + 1), by omega, e + 1, rfl, by omega, rfl⟩
  · have hge : e = l.length := by
      have := h; simp [dPrs_len] at this; omega
    have htk : (l.map prT).take e = l.map prT := List.take_of_length_le (by simp; omega)
    rw [htk]
    refine call_p (enters_of Tryz.func133 (by decide +kernel) rfl) (join_spec (l.map prT) (ba [44, 32]) (by simp; omega) (by rw [tx_ba]; omega)) (by repeat' (first | exact rfl | exact trivial | exact Or.inr (Or.inl ⟨_, rfl⟩) | exact Or.inr ⟨_, rfl⟩ | exact Or.inl ⟨rfl, rfl⟩ | exact Or.inl rfl | refine Or.inr ⟨_, _, rfl, Nat.zero_le _, rfl, ?_⟩ | refine ⟨_, _, rfl, ?_, ?_⟩ | refine ⟨_, rfl, ?_⟩ | refine Or.inr (Or.inr (Or.inr ⟨_, _, rfl, ?_⟩)) | exact Or.inl rfl | refine Or.inr ?_)) rfl ?_
    rw [tx_ba]
    exact (rfl : _ = _)

/-- A schema that may be written has types that may be. -/
theorem right_parts {s : Sch} (hr : rngS s) (h : rightB s = true) : (∀ x ∈ s.types, fineT x.2) ∧ fineT s.root := by
  simp only [rightB, Bool.and_eq_true, List.all_eq_true] at h
  obtain ⟨⟨⟨_, _⟩, h3⟩, h4⟩ := h
  refine ⟨fun x hx => wrong_fine x.2 1 0 (hr.1 x hx) (of_decide_eq_true (h3 x hx).2), wrong_fine s.root 1 0 hr.2 (of_decide_eq_true h4)⟩

def fmtD (s : Sch) : ByteArray := if rightB s = true then ba (fmtT s) else ⟨#[]⟩

abbrev ufmtSt (s : Sch) (l : List UInt8) (e : Nat) : St :=
  ⟨[(1, ⟨[], .loc 0 0⟩), (3, ⟨[], .loc 1 0⟩), (21, ⟨[], .sl 11 (dNms s.types) none⟩), (22, ⟨[], .v (.int .i64 (dNms s.types).length)⟩), (23, ⟨[], .v (.int .i64 e)⟩)],
   [dSch s, [.loc 1 0, .sl 1 (bD l) (some 0)]], [⟨l.length, 5, 1⟩]⟩

/-- The text up to the e-th type. -/
def upto (s : Sch) (e : Nat) : List UInt8 := headS s ++ ordS s ++ ((s.types.take e).map nmT).flatten
theorem upto_snoc {s : Sch} {e : Nat} {x : Wd × Ty} (h : s.types[e]? = some x) : upto s (e + 1) = upto s e ++ nmT x := by
  unfold upto
  rw [List.take_add_one, h]
  simp
theorem nms_len {l : List (Wd × Ty)} (hf : ∀ x ∈ l, fineT x.2) : ((l.map nmT).flatten).length ≤ nmsWt l := by
  induction l with
  | nil => simp
  | cons x r ih =>
    have i1 := ih (fun y hy => hf y (by simp [hy]))
    have i2 := tyT_len (hf x (by simp))
    simp only [List.map_cons, List.flatten_cons, List.length_append, nmsWt, nmT, tx_len, List.length_cons, List.length_nil, Wd.wt]
    omega
theorem nmsWt_take : ∀ (l : List (Wd × Ty)) (e : Nat), nmsWt (l.take e) ≤ nmsWt l
  | [], e => by simp
  | w :: r, 0 => by simp [nmsWt]
  | w :: r, e + 1 => by
    have := nmsWt_take r e
    simp only [List.take_succ_cons, nmsWt]; omega

theorem ufmt_spec (s : Sch) (hbig : s.wt ≤ 1099511627776) (hrng : rngS s) : EvP Tryz.prog 23 [.agg (dSch s)] (.v (.string (fmtD s))) := by
  have h1 := wdsWt_len s.levels
  have h2 := prsWt_len s.order
  have h3 := nmsWt_len s.types
  have hright := uright_spec s hbig
  simp only [Sch.wt] at hbig
  have e0 : fmtD s = if rightB s = true then ba (fmtT s) else ⟨#[]⟩ := rfl
  have hpar := right_parts hrng
  have l1 := listW_spec s.levels (by omega)
  have l2 := listPr_spec s.order (by omega)
  have j1 := joinT_len (f := []) (s := [44, 32]) (by simp) (by simp) (s.levels.map wdT)
  have j2 := jl_wds s.levels
  have j3 := joinT_len (f := []) (s := [44, 32]) (by simp) (by simp) (s.order.map prT)
  have j4 := jl_prs s.order
  generalize fmtD s = D at e0 ⊢
  have hH : (headS s).length ≤ wdsWt s.levels + 20 := by simp only [headS, List.length_append, List.length_cons, List.length_nil]; omega
  have hO : (ordS s).length ≤ prsWt s.order + 10 := by simp only [ordS, List.length_append, List.length_cons, List.length_nil]; omega
  have hk := fun hf => kind_spec s.root (by omega) hf
  generalize hs : s = s' at *
  obtain ⟨levels, order, types, ⟨h, ps⟩⟩ := s'
  clear hs
  simp only at h1 h2 h3 hbig l1 l2 j1 j2 j3 j4 hH hO hk hpar
  refine evB_gob (s := false) (bt := [(1, 126)]) (hbt := fun p hp => Nat.zero_le _) (P := Tryz.prog) tt tt_ok 5000 44 [.tmp 2] Tryz.func23 rfl Tryz.ntmps23 rfl (Nat.le_of_ble_eq_true rfl) (fun E9 w9 hn9 hm9 => ?_)
  refine call_p (enters_of Tryz.func22 (by decide +kernel) rfl) (hright) (by repeat' (first | exact rfl | exact trivial | exact Or.inr (Or.inl ⟨_, rfl⟩) | exact Or.inr ⟨_, rfl⟩ | exact Or.inl ⟨rfl, rfl⟩ | exact Or.inl rfl | refine Or.inr ⟨_, _, rfl, Nat.zero_le _, rfl, ?_⟩ | refine ⟨_, _, rfl, ?_, ?_⟩ | refine ⟨_, rfl, ?_⟩ | refine Or.inr (Or.inr (Or.inr ⟨_, _, rfl, ?_⟩)) | exact Or.inl rfl | refine Or.inr ?_)) rfl ?_
  refine br (fun c => ?_) (fun c => ?_)
  · have c : rightB ⟨levels, order, types, .mk h ps⟩ = false := by simpa using c
    rw [c, if_neg (by simp)] at e0
    refine (congrArg (fun s => DV.v (.string s)) ?_ : _ = _)
    rw [e0]
  have c : rightB ⟨levels, order, types, .mk h ps⟩ = true := by simpa using c
  rw [if_pos c] at e0
  obtain ⟨hft, hfr⟩ := hpar c
  have hroot := tyT_len hfr
  refine call_p (enters_of Tryz.func78 (by decide +kernel) rfl) (l1) (by repeat' (first | exact rfl | exact trivial | exact Or.inr (Or.inl ⟨_, rfl⟩) | exact Or.inr ⟨_, rfl⟩ | exact Or.inl ⟨rfl, rfl⟩ | exact Or.inl rfl | refine Or.inr ⟨_, _, rfl, Nat.zero_le _, rfl, ?_⟩ | refine ⟨_, _, rfl, ?_, ?_⟩ | refine ⟨_, rfl, ?_⟩ | refine Or.inr (Or.inr (Or.inr ⟨_, _, rfl, ?_⟩)) | exact Or.inl rfl | refine Or.inr ?_)) rfl ?_
  refine ⟨by (simp only [sz_app, sz_ba, List.length_cons, List.length_nil]; omega), ?_⟩
  refine ⟨by (simp only [sz_app, sz_ba, List.length_cons, List.length_nil]; omega), ?_⟩
  refine call_bwl rfl (headS ⟨levels, order, types, .mk h ps⟩) (l := []) (kt := 0) (by simp [headS]) (.head _) rfl (.inl rfl) (.inl ⟨rfl, rfl, rfl, rfl⟩) (by (simp only [sz_app, sz_ba, List.length_cons, List.length_nil]; omega)) (by omega) rfl ?_
  refine call_p (enters_of Tryz.func80 (by decide +kernel) rfl) (l2) (by repeat' (first | exact rfl | exact trivial | exact Or.inr (Or.inl ⟨_, rfl⟩) | exact Or.inr ⟨_, rfl⟩ | exact Or.inl ⟨rfl, rfl⟩ | exact Or.inl rfl | refine Or.inr ⟨_, _, rfl, Nat.zero_le _, rfl, ?_⟩ | refine ⟨_, _, rfl, ?_, ?_⟩ | refine ⟨_, rfl, ?_⟩ | refine Or.inr (Or.inr (Or.inr ⟨_, _, rfl, ?_⟩)) | exact Or.inl rfl | refine Or.inr ?_)) rfl ?_
  refine ⟨by (simp only [sz_app, sz_ba, List.length_cons, List.length_nil]; omega), ?_⟩
  refine call_bwl rfl (upto ⟨levels, order, types, .mk h ps⟩ 0) (l := headS ⟨levels, order, types, .mk h ps⟩) (kt := 0) (by simp [upto, ordS]) (.head _) rfl (.inr rfl) (.inr ⟨rfl, by simp [headS], rfl, rfl⟩) (by (simp only [sz_app, sz_ba, List.length_cons, List.length_nil]; omega)) (by simp [upto]; omega) rfl ?_
  refine loop_i (fun j st => ∃ e : Nat, st = ufmtSt ⟨levels, order, types, .mk h ps⟩ (upto ⟨levels, order, types, .mk h ps⟩ e) e ∧ e ≤ types.length ∧ j = types.length - e) types.length (ufmtSt ⟨levels, order, types, .mk h ps⟩ (upto ⟨levels, order, types, .mk h ps⟩ 0) 0) (weak_mk ⟨_, rfl⟩ (by repeat' (first | exact rfl | exact we_rfl rfl | refine ⟨_, _, rfl, ?_, ?_⟩)) rfl rfl rfl (by repeat' (first | exact trivial | exact we_rfl rfl | refine ⟨⟨_, rfl, ?_⟩, ?_⟩))) ⟨0, rfl, by omega, by omega⟩ ?_
  rintro j st ⟨e, rfl, he, rfl⟩
  have hul : (upto ⟨levels, order, types, .mk h ps⟩ e).length ≤ wdsWt levels + prsWt order + nmsWt types + 30 := by
    have e1 := nms_len (l := types.take e) (fun x hx => hft x (List.mem_of_mem_take hx))
    have e2 := nmsWt_take types e
    simp only [upto, List.length_append]
    omega
  have hune : upto ⟨levels, order, types, .mk h ps⟩ e ≠ [] := by simp [upto, headS]
  refine br (fun hL => ?_) (fun hL => ?_)
  · have hlt : e < types.length := by have := hL; simp [dNms_len] at this; exact this
    obtain ⟨w, hw⟩ : ∃ w, types[e]? = some w := ⟨_, List.getElem?_eq_getElem hlt⟩
    have hwt := nmsWt_mem (List.mem_of_getElem? hw)
    have hwf := hft w (List.mem_of_getElem? hw)
    have hsn := upto_snoc (s := ⟨levels, order, types, .mk h ps⟩) hw
    have hkw := kind_spec w.2 (by omega) hwf
    have htl := tyT_len hwf
    simp only [Wd.wt] at hwt
    obtain ⟨w, u, us⟩ := w
    simp only at hwt hkw htl
    refine ⟨_, ⟨by omega, dNms_get hw⟩, ?_⟩
    refine drawG_i (fun i => Nat.beq i 9) mo (by decide +kernel) ?_
    refine ⟨by (simp only [sz_app, sz_ba, List.length_cons, List.length_nil]; omega), ?_⟩
    refine ⟨by (simp only [sz_app, sz_ba, List.length_cons, List.length_nil]; omega), ?_⟩
    refine callD_p (enters_of Tryz.func72 (by decide +kernel) rfl) (hkw) (by repeat' (first | exact rfl | exact trivial | exact Or.inr (Or.inl ⟨_, rfl⟩) | exact Or.inr ⟨_, rfl⟩ | exact Or.inl ⟨rfl, rfl⟩ | exact Or.inl rfl | refine Or.inr ⟨_, _, rfl, Nat.zero_le _, rfl, ?_⟩ | refine ⟨_, _, rfl, ?_, ?_⟩ | refine ⟨_, rfl, ?_⟩ | refine Or.inr (Or.inr (Or.inr ⟨_, _, rfl, ?_⟩)) | exact Or.inl rfl | refine Or.inr ?_)) rfl ?_
    refine ⟨by (simp only [sz_app, sz_ba, List.length_cons, List.length_nil]; omega), ?_⟩
    refine callD_last rfl (call_bwl rfl (upto ⟨levels, order, types, .mk h ps⟩ (e + 1)) (l := upto ⟨levels, order, types, .mk h ps⟩ e) (kt := 0) (by rw [hsn]; simp [nmT, tx]) (.head _) rfl (.inr rfl) (.inr ⟨rfl, hune, rfl, rfl⟩) (by (simp only [sz_app, sz_ba, List.length_cons, List.length_nil]; omega)) (by rw [hsn]; simp only [List.length_append, nmT, tx_len, List.length_cons, List.length_nil]; omega) rfl ?_)
    refine ⟨ufmtSt ⟨levels, order, types, .mk h ps⟩ (upto ⟨levels, order, types, .mk h ps⟩ (e + 1)) (e + 1), (weak_mk ⟨_, rfl⟩ (by repeat' (first | exact rfl | exact we_rfl rfl | refine ⟨_, _, rfl, ?_, ?_⟩)) rfl rfl rfl (by repeat' (first | exact trivial | exact we_rfl rfl | exact we_int (nxt hlt (by omega)) | refine ⟨⟨_, rfl, ?_⟩, ?_⟩))), types.length - (e + 1), by omega, e + 1, rfl, by omega, rfl⟩
  have hge : e = types.length := by have := hL; simp [dNms_len] at this; omega
  subst hge
  refine call_p (enters_of Tryz.func72 (by decide +kernel) rfl) (hk hfr) (by repeat' (first | exact rfl | exact trivial | exact Or.inr (Or.inl ⟨_, rfl⟩) | exact Or.inr ⟨_, rfl⟩ | exact Or.inl ⟨rfl, rfl⟩ | exact Or.inl rfl | refine Or.inr ⟨_, _, rfl, Nat.zero_le _, rfl, ?_⟩ | refine ⟨_, _, rfl, ?_, ?_⟩ | refine ⟨_, rfl, ?_⟩ | refine Or.inr (Or.inr (Or.inr ⟨_, _, rfl, ?_⟩)) | exact Or.inl rfl | refine Or.inr ?_)) rfl ?_
  refine ⟨by (simp only [sz_app, sz_ba, List.length_cons, List.length_nil]; omega), ?_⟩
  have hfe : fmtT ⟨levels, order, types, .mk h ps⟩ = upto ⟨levels, order, types, .mk h ps⟩ types.length ++ ([32, 114, 111, 111, 116, 32] ++ tyT (.mk h ps)) := by simp [fmtT, upto]
  refine call_bwl rfl (fmtT ⟨levels, order, types, .mk h ps⟩) (l := upto ⟨levels, order, types, .mk h ps⟩ types.length) (kt := 0) (by rw [hfe]; simp) (.head _) rfl (.inr rfl) (.inr ⟨rfl, hune, rfl, rfl⟩) (by (simp only [sz_app, sz_ba, List.length_cons, List.length_nil]; omega)) (by rw [hfe]; simp only [List.length_append, List.length_cons, List.length_nil]; omega) rfl ?_
  refine call_bs rfl (l := fmtT ⟨levels, order, types, .mk h ps⟩) (kt := 0) (.head _) rfl (by rw [hfe]; simp) rfl rfl rfl rfl ?_
  refine (congrArg (fun s => DV.v (.string s)) ?_ : _ = _)
  rw [e0]
end Go.Proofs.YtmphiikdhifhjaaGreat
set_option maxRecDepth 100000
namespace Go.Proofs.YtmphiikdhifhjaaGreat
open Go Go.RowKit Dv Tryz

abbrev wrongSt (h : Hd) (ps : Pts) (e : Nat) (depth m : Int) : St :=
  ⟨[(2, ⟨[], .v (.int .i64 depth)⟩), (3, ⟨[], .loc 0 0⟩), (4, ⟨[], .loc 1 0⟩), (6, ⟨[], .loc 2 0⟩), (7, ⟨[], .v (.int .i64 e)⟩)], [[.v (.int .i64 0), .v (.int .i64 0), .v (.int .i64 m)], dTy (.mk h ps), [.v (.int .i64 0), .v (.int .i64 0), .v (.int .i64 0)]], []⟩

theorem wrong15_step (k : Nat) (ih : WrongOK k) (h : Hd) (ps : Pts) (depth m : Int) (hk : ps.wt ≤ k) (hbig : (Ty.mk h ps).wt ≤ 1099511627776) (hd0 : 0 ≤ depth) (hd1 : depth ≤ 25) (hm0 : 0 ≤ m) (hm1 : m ≤ 512) :
    EvP Tryz.prog 16 [wD (0, 0) m, .agg (dTy (.mk h ps)), .v (.int .i64 depth)] (wD (wrong (.mk h ps) depth m).1 (wrong (.mk h ps) depth m).2) := by
  have hbig' := hbig
  simp only [Ty.wt, Hd.wt] at hbig'
  have hpl := ps.wt_len
  have hnw := wdsWt_len h.names
  have hmw : IntKind.i64.wrap (m + 1) = m + 1 := wrap64 (by omega) (by omega)
  have hW : ∀ e a, EvP Tryz.prog 62 [.agg [.v (.int .i64 0), .v (.int .i64 0), .v (.int .i64 (IntKind.i64.wrap (m + 1)))], .v (.int .i64 e), .v (.int .i64 a)] (wD (e, a) (m + 1)) := by
    intro e a; rw [hmw]; exact with15_spec (0, 0) (m + 1) e a
  have hS := wrong.eq_def (.mk h ps) depth m
  simp only at hS
  refine ev_go (P := Tryz.prog) tt tt_ok 5000 201 [.cell 6 35] Tryz.func16 rfl Tryz.ntmps16 rfl (Nat.le_of_ble_eq_true rfl) (fun E9 w9 hn9 hm9 => ?_)
  refine br (fun c => ?_) (fun c => ?_)
  · have c : 24 < depth := of_decide_eq_true c
    refine call_p (enters_of Tryz.func62 (by decide +kernel) rfl) (hW 6 h.at') (by repeat' (first | exact rfl | exact trivial | exact Or.inr (Or.inl ⟨_, rfl⟩) | exact Or.inr ⟨_, rfl⟩ | exact Or.inl ⟨rfl, rfl⟩ | exact Or.inl rfl | refine Or.inr ⟨_, _, rfl, Nat.zero_le _, rfl, ?_⟩ | refine ⟨_, _, rfl, ?_, ?_⟩ | refine ⟨_, rfl, ?_⟩ | refine Or.inr (Or.inr (Or.inr ⟨_, _, rfl, ?_⟩)) | exact Or.inl rfl | refine Or.inr ?_)) rfl ?_
    rw [if_pos c] at hS
    refine ⟨_, ?_, rfl⟩
    rw [hS]
    exact (by repeat' (first | exact rfl | exact trivial | exact Or.inr (Or.inl ⟨_, rfl⟩) | exact Or.inr ⟨_, rfl⟩ | exact Or.inl ⟨rfl, rfl⟩ | exact Or.inl rfl | refine Or.inr ⟨_, _, rfl, Nat.zero_le _, rfl, ?_⟩ | refine ⟨_, _, rfl, ?_, ?_⟩ | refine ⟨_, rfl, ?_⟩ | refine Or.inr (Or.inr (Or.inr ⟨_, _, rfl, ?_⟩)) | exact Or.inl rfl | refine Or.inr ?_))
  have c : ¬ 24 < depth := of_decide_eq_false c
  rw [if_neg c] at hS
  refine br (fun c => ?_) (fun c => ?_)
  · have c : 512 < IntKind.i64.wrap (m + 1) := of_decide_eq_true c
    rw [hmw] at c
    refine call_p (enters_of Tryz.func62 (by decide +kernel) rfl) (hW 8 h.at') (by repeat' (first | exact rfl | exact trivial | exact Or.inr (Or.inl ⟨_, rfl⟩) | exact Or.inr ⟨_, rfl⟩ | exact Or.inl ⟨rfl, rfl⟩ | exact Or.inl rfl | refine Or.inr ⟨_, _, rfl, Nat.zero_le _, rfl, ?_⟩ | refine ⟨_, _, rfl, ?_, ?_⟩ | refine ⟨_, rfl, ?_⟩ | refine Or.inr (Or.inr (Or.inr ⟨_, _, rfl, ?_⟩)) | exact Or.inl rfl | refine Or.inr ?_)) rfl ?_
    rw [if_pos c] at hS
    refine ⟨_, ?_, rfl⟩
    rw [hS]
    exact (by repeat' (first | exact rfl | exact trivial | exact Or.inr (Or.inl ⟨_, rfl⟩) | exact Or.inr ⟨_, rfl⟩ | exact Or.inl ⟨rfl, rfl⟩ | exact Or.inl rfl | refine Or.inr ⟨_, _, rfl, Nat.zero_le _, rfl, ?_⟩ | refine ⟨_, _, rfl, ?_, ?_⟩ | refine ⟨_, rfl, ?_⟩ | refine Or.inr (Or.inr (Or.inr ⟨_, _, rfl, ?_⟩)) | exact Or.inl rfl | refine Or.inr ?_))
  have c : ¬ 512 < IntKind.i64.wrap (m + 1) := of_decide_eq_false c
  rw [hmw] at c
  rw [if_neg c] at hS
  refine br (fun c => ?_) (fun c => ?_)
  · have c : h.kind < 1 ∨ 9 < h.kind := by simpa [pickB_or] using c
    refine call_p (enters_of Tryz.func62 (by decide +kernel) rfl) (hW 14 h.at') (by repeat' (first | exact rfl | exact trivial | exact Or.inr (Or.inl ⟨_, rfl⟩) | exact Or.inr ⟨_, rfl⟩ | exact Or.inl ⟨rfl, rfl⟩ | exact Or.inl rfl | refine Or.inr ⟨_, _, rfl, Nat.zero_le _, rfl, ?_⟩ | refine ⟨_, _, rfl, ?_, ?_⟩ | refine ⟨_, rfl, ?_⟩ | refine Or.inr (Or.inr (Or.inr ⟨_, _, rfl, ?_⟩)) | exact Or.inl rfl | refine Or.inr ?_)) rfl ?_
    rw [if_pos c] at hS
    refine ⟨_, ?_, rfl⟩
    rw [hS]
    exact (by repeat' (first | exact rfl | exact trivial | exact Or.inr (Or.inl ⟨_, rfl⟩) | exact Or.inr ⟨_, rfl⟩ | exact Or.inl ⟨rfl, rfl⟩ | exact Or.inl rfl | refine Or.inr ⟨_, _, rfl, Nat.zero_le _, rfl, ?_⟩ | refine ⟨_, _, rfl, ?_, ?_⟩ | refine ⟨_, rfl, ?_⟩ | refine Or.inr (Or.inr (Or.inr ⟨_, _, rfl, ?_⟩)) | exact Or.inl rfl | refine Or.inr ?_))
  have c : ¬ (h.kind < 1 ∨ 9 < h.kind) := by simp [pickB_or] at c; omega
  rw [if_neg c] at hS
  refine call_p (enters_of Tryz.func63 (by decide +kernel) rfl) (own15_spec (.mk h ps) (by omega)) (by repeat' (first | exact rfl | exact trivial | exact Or.inr (Or.inl ⟨_, rfl⟩) | exact Or.inr ⟨_, rfl⟩ | exact Or.inl ⟨rfl, rfl⟩ | exact Or.inl rfl | refine Or.inr ⟨_, _, rfl, Nat.zero_le _, rfl, ?_⟩ | refine ⟨_, _, rfl, ?_, ?_⟩ | refine ⟨_, rfl, ?_⟩ | refine Or.inr (Or.inr (Or.inr ⟨_, _, rfl, ?_⟩)) | exact Or.inl rfl | refine Or.inr ?_)) rfl ?_
  refine br (fun c => ?_) (fun c => ?_)
  · have c : ownB (.mk h ps) = false := by simpa [ownB] using c
    refine call_p (enters_of Tryz.func62 (by decide +kernel) rfl) (hW 19 h.at') (by repeat' (first | exact rfl | exact trivial | exact Or.inr (Or.inl ⟨_, rfl⟩) | exact Or.inr ⟨_, rfl⟩ | exact Or.inl ⟨rfl, rfl⟩ | exact Or.inl rfl | refine Or.inr ⟨_, _, rfl, Nat.zero_le _, rfl, ?_⟩ | refine ⟨_, _, rfl, ?_, ?_⟩ | refine ⟨_, rfl, ?_⟩ | refine Or.inr (Or.inr (Or.inr ⟨_, _, rfl, ?_⟩)) | exact Or.inl rfl | refine Or.inr ?_)) rfl ?_
    rw [if_pos c] at hS
    refine ⟨_, ?_, rfl⟩
    rw [hS]
    exact (by repeat' (first | exact rfl | exact trivial | exact Or.inr (Or.inl ⟨_, rfl⟩) | exact Or.inr ⟨_, rfl⟩ | exact Or.inl ⟨rfl, rfl⟩ | exact Or.inl rfl | refine Or.inr ⟨_, _, rfl, Nat.zero_le _, rfl, ?_⟩ | refine ⟨_, _, rfl, ?_, ?_⟩ | refine ⟨_, rfl, ?_⟩ | refine Or.inr (Or.inr (Or.inr ⟨_, _, rfl, ?_⟩)) | exact Or.inl rfl | refine Or.inr ?_))
  have c : ¬ ownB (.mk h ps) = false := by simpa [ownB] using c
  rw [if_neg c] at hS
  refine br (fun c => ?_) (fun c => ?_)
  · have c : (h.kind = 2 ∧ h.hi < h.lo) ∨ (h.kind = 3 ∧ (h.most < 0 ∨ 4096 < h.most)) := by simp [pickB_or, pickB_and] at c; omega
    refine call_p (enters_of Tryz.func62 (by decide +kernel) rfl) (hW 20 h.at') (by repeat' (first | exact rfl | exact trivial | exact Or.inr (Or.inl ⟨_, rfl⟩) | exact Or.inr ⟨_, rfl⟩ | exact Or.inl ⟨rfl, rfl⟩ | exact Or.inl rfl | refine Or.inr ⟨_, _, rfl, Nat.zero_le _, rfl, ?_⟩ | refine ⟨_, _, rfl, ?_, ?_⟩ | refine ⟨_, rfl, ?_⟩ | refine Or.inr (Or.inr (Or.inr ⟨_, _, rfl, ?_⟩)) | exact Or.inl rfl | refine Or.inr ?_)) rfl ?_
    rw [if_pos c] at hS
    refine ⟨_, ?_, rfl⟩
    rw [hS]
    exact (by repeat' (first | exact rfl | exact trivial | exact Or.inr (Or.inl ⟨_, rfl⟩) | exact Or.inr ⟨_, rfl⟩ | exact Or.inl ⟨rfl, rfl⟩ | exact Or.inl rfl | refine Or.inr ⟨_, _, rfl, Nat.zero_le _, rfl, ?_⟩ | refine ⟨_, _, rfl, ?_, ?_⟩ | refine ⟨_, rfl, ?_⟩ | refine Or.inr (Or.inr (Or.inr ⟨_, _, rfl, ?_⟩)) | exact Or.inl rfl | refine Or.inr ?_))
  have c : ¬ ((h.kind = 2 ∧ h.hi < h.lo) ∨ (h.kind = 3 ∧ (h.most < 0 ∨ 4096 < h.most))) := by simp [pickB_or, pickB_and] at c; omega
  rw [if_neg c] at hS
  -- what stands behind the check of a name: no record, no union, no list
  refine br (fun k9 => ?_) (fun k9 => ?_)
  · have k9 : h.kind = 9 := by simpa using k9
    refine call_p (enters_of Tryz.func64 (by decide +kernel) rfl) (right8_spec h.name.s (by simp only [Wd.wt] at hbig'; omega)) (by repeat' (first | exact rfl | exact trivial | exact Or.inr (Or.inl ⟨_, rfl⟩) | exact Or.inr ⟨_, rfl⟩ | exact Or.inl ⟨rfl, rfl⟩ | exact Or.inl rfl | refine Or.inr ⟨_, _, rfl, Nat.zero_le _, rfl, ?_⟩ | refine ⟨_, _, rfl, ?_, ?_⟩ | refine ⟨_, rfl, ?_⟩ | refine Or.inr (Or.inr (Or.inr ⟨_, _, rfl, ?_⟩)) | exact Or.inl rfl | refine Or.inr ?_)) rfl ?_
    refine br (fun q => ?_) (fun q => ?_)
    · have q : nameOK h.name.s = false := by simpa [pickB_and, k9] using q
      refine call_p (enters_of Tryz.func62 (by decide +kernel) rfl) (hW 9 h.name.a) (by repeat' (first | exact rfl | exact trivial | exact Or.inr (Or.inl ⟨_, rfl⟩) | exact Or.inr ⟨_, rfl⟩ | exact Or.inl ⟨rfl, rfl⟩ | exact Or.inl rfl | refine Or.inr ⟨_, _, rfl, Nat.zero_le _, rfl, ?_⟩ | refine ⟨_, _, rfl, ?_, ?_⟩ | refine ⟨_, rfl, ?_⟩ | refine Or.inr (Or.inr (Or.inr ⟨_, _, rfl, ?_⟩)) | exact Or.inl rfl | refine Or.inr ?_)) rfl ?_
      rw [if_pos ⟨k9, q⟩] at hS
      refine ⟨_, ?_, rfl⟩
      rw [hS]
      exact (by repeat' (first | exact rfl | exact trivial | exact Or.inr (Or.inl ⟨_, rfl⟩) | exact Or.inr ⟨_, rfl⟩ | exact Or.inl ⟨rfl, rfl⟩ | exact Or.inl rfl | refine Or.inr ⟨_, _, rfl, Nat.zero_le _, rfl, ?_⟩ | refine ⟨_, _, rfl, ?_, ?_⟩ | refine ⟨_, rfl, ?_⟩ | refine Or.inr (Or.inr (Or.inr ⟨_, _, rfl, ?_⟩)) | exact Or.inl rfl | refine Or.inr ?_))
    · have q : nameOK h.name.s = true := by simpa [pickB_and, k9] using q
      rw [if_neg (by simp [q]), if_neg (by omega), if_neg (by omega), if_neg (by omega)] at hS
      refine br (fun x => ?_) (fun _ => ?_)
      · have := of_decide_eq_true x; omega
      refine br (fun x => ?_) (fun _ => ?_)
      · simp [pickB_or] at x; omega
      refine br (fun x => ?_) (fun _ => ?_)
      · simp [pickB_or] at x; omega
      refine ⟨_, ?_, rfl⟩
      rw [hS]
      exact (by repeat' (first | exact rfl | exact trivial | exact Or.inr (Or.inl ⟨_, rfl⟩) | exact Or.inr ⟨_, rfl⟩ | exact Or.inl ⟨rfl, rfl⟩ | exact Or.inl rfl | refine Or.inr ⟨_, _, rfl, Nat.zero_le _, rfl, ?_⟩ | refine ⟨_, _, rfl, ?_, ?_⟩ | refine ⟨_, rfl, ?_⟩ | exact congrArg (fun z => DV.v (.int .i64 z)) hmw | refine Or.inr (Or.inr (Or.inr ⟨_, _, rfl, ?_⟩)) | exact Or.inl rfl | refine Or.inr ?_))
  · have k9 : ¬ h.kind = 9 := by simpa using k9
    rw [if_neg (by simp [k9])] at hS
    refine br (fun k4 => ?_) (fun k4 => ?_)
    · have k4 : h.kind = 4 := of_decide_eq_true k4
      rw [if_pos k4] at hS
      refine br (fun c => ?_) (fun c => ?_)
      · have c : h.names = [] := by simp [dWds_len] at c; exact c
        refine call_p (enters_of Tryz.func62 (by decide +kernel) rfl) (hW 15 h.at') (by repeat' (first | exact rfl | exact trivial | exact Or.inr (Or.inl ⟨_, rfl⟩) | exact Or.inr ⟨_, rfl⟩ | exact Or.inl ⟨rfl, rfl⟩ | exact Or.inl rfl | refine Or.inr ⟨_, _, rfl, Nat.zero_le _, rfl, ?_⟩ | refine ⟨_, _, rfl, ?_, ?_⟩ | refine ⟨_, rfl, ?_⟩ | refine Or.inr (Or.inr (Or.inr ⟨_, _, rfl, ?_⟩)) | exact Or.inl rfl | refine Or.inr ?_)) rfl ?_
        refine ⟨_, ?_, rfl⟩
        rw [hS]
        simp only [enumWd, if_pos c]
        exact (by repeat' (first | exact rfl | exact trivial | exact Or.inr (Or.inl ⟨_, rfl⟩) | exact Or.inr ⟨_, rfl⟩ | exact Or.inl ⟨rfl, rfl⟩ | exact Or.inl rfl | refine Or.inr ⟨_, _, rfl, Nat.zero_le _, rfl, ?_⟩ | refine ⟨_, _, rfl, ?_, ?_⟩ | refine ⟨_, rfl, ?_⟩ | refine Or.inr (Or.inr (Or.inr ⟨_, _, rfl, ?_⟩)) | exact Or.inl rfl | refine Or.inr ?_))
      have c : ¬ h.names = [] := by simp [dWds_len] at c; exact c
      refine br (fun c2 => ?_) (fun c2 => ?_)
      · have hlt : 64 < h.names.length := by simp [dWds_len] at c2; omega
        obtain ⟨x, hx⟩ : ∃ x, h.names[64]? = some x := ⟨_, List.getElem?_eq_getElem hlt⟩
        refine drawG_s mo (by decide +kernel) ?_
        refine ⟨dWd x, ⟨by omega, dWds_get hx⟩, ?_⟩
        refine callD_p (enters_of Tryz.func62 (by decide +kernel) rfl) (hW 8 x.a) (by repeat' (first | exact rfl | exact trivial | exact Or.inr (Or.inl ⟨_, rfl⟩) | exact Or.inr ⟨_, rfl⟩ | exact Or.inl ⟨rfl, rfl⟩ | exact Or.inl rfl | refine Or.inr ⟨_, _, rfl, Nat.zero_le _, rfl, ?_⟩ | refine ⟨_, _, rfl, ?_, ?_⟩ | refine ⟨_, rfl, ?_⟩ | refine Or.inr (Or.inr (Or.inr ⟨_, _, rfl, ?_⟩)) | exact Or.inl rfl | refine Or.inr ?_)) rfl ?_
        refine ⟨_, ?_, rfl⟩
        rw [hS]
        simp only [enumWd, if_neg c, if_pos hlt, hx, Option.getD_some]
        exact (by repeat' (first | exact rfl | exact trivial | exact Or.inr (Or.inl ⟨_, rfl⟩) | exact Or.inr ⟨_, rfl⟩ | exact Or.inl ⟨rfl, rfl⟩ | exact Or.inl rfl | refine Or.inr ⟨_, _, rfl, Nat.zero_le _, rfl, ?_⟩ | refine ⟨_, _, rfl, ?_, ?_⟩ | refine ⟨_, rfl, ?_⟩ | refine Or.inr (Or.inr (Or.inr ⟨_, _, rfl, ?_⟩)) | exact Or.inl rfl | refine Or.inr ?_))
      have c2 : ¬ 64 < h.names.length := by simp [dWds_len] at c2; omega
      have hE : enumWd h = enumL h.names 0 h.names := by simp only [enumWd, if_neg c, if_neg c2]
      rw [hE] at hS
      refine loop_i (fun j st => ∃ (e : Nat), st = wrongSt h ps e depth (m + 1) ∧ e ≤ h.names.length ∧ enumL h.names 0 h.names = enumL h.names e (h.names.drop e) ∧ j = h.names.length - e) h.names.length
        (wrongSt h ps 0 depth (m + 1)) (weak_b 3 rfl (by repeat' (first | exact rfl | exact we_rfl rfl | exact we_int hmw | refine ⟨_, _, rfl, ?_, ?_⟩)) rfl rfl rfl (by repeat' (first | exact trivial | exact we_rfl rfl | exact we_int hmw | refine ⟨⟨_, rfl, ?_⟩, ?_⟩))) ⟨0, rfl, by omega, rfl, by omega⟩ ?_
      rintro j st ⟨e, rfl, he, heq, rfl⟩
      refine br (fun hL => ?_) (fun hL => ?_)
      · have hlt : e < h.names.length := by simpa [dWds_len] using hL
        obtain ⟨x, hx⟩ : ∃ x, h.names[e]? = some x := ⟨_, List.getElem?_eq_getElem hlt⟩
        rw [drop_cons hx] at heq
        simp only [enumL] at heq
        refine call_p (enters_of Tryz.func65 (by decide +kernel) rfl) (listed15_spec h.names e x (by omega) hx) (by repeat' (first | exact rfl | exact trivial | exact Or.inr (Or.inl ⟨_, rfl⟩) | exact Or.inr ⟨_, rfl⟩ | exact Or.inl ⟨rfl, rfl⟩ | exact Or.inl rfl | refine Or.inr ⟨_, _, rfl, Nat.zero_le _, rfl, ?_⟩ | refine ⟨_, _, rfl, ?_, ?_⟩ | refine ⟨_, rfl, ?_⟩ | refine Or.inr (Or.inr (Or.inr ⟨_, _, rfl, ?_⟩)) | exact Or.inl rfl | refine Or.inr ?_)) rfl ?_
        refine br (fun hl => ?_) (fun hl => ?_)
        · have hl : listedF h.names e x ≠ 0 := by simpa using hl
          rw [if_pos hl] at heq
          refine drawG_s mo (by decide +kernel) ?_
          refine ⟨dWd x, ⟨by omega, dWds_get hx⟩, ?_⟩
          refine callD_p (enters_of Tryz.func62 (by decide +kernel) rfl) (with15_spec (0, 0) (m + 1) _ x.a) (by repeat' (first | exact rfl | exact trivial | exact Or.inr (Or.inl ⟨_, rfl⟩) | exact Or.inr ⟨_, rfl⟩ | exact Or.inl ⟨rfl, rfl⟩ | exact Or.inl rfl | refine Or.inr ⟨_, _, rfl, Nat.zero_le _, rfl, ?_⟩ | refine ⟨_, _, rfl, ?_, ?_⟩ | refine ⟨_, rfl, ?_⟩ | refine Or.inr (Or.inr (Or.inr ⟨_, _, rfl, ?_⟩)) | exact Or.inl rfl | refine Or.inr ?_)) rfl ?_
          refine ⟨_, ?_, rfl⟩
          rw [hS, heq]
          exact (by repeat' (first | exact rfl | exact trivial | exact Or.inr (Or.inl ⟨_, rfl⟩) | exact Or.inr ⟨_, rfl⟩ | exact Or.inl ⟨rfl, rfl⟩ | exact Or.inl rfl | refine Or.inr ⟨_, _, rfl, Nat.zero_le _, rfl, ?_⟩ | refine ⟨_, _, rfl, ?_, ?_⟩ | refine ⟨_, rfl, ?_⟩ | refine Or.inr (Or.inr (Or.inr ⟨_, _, rfl, ?_⟩)) | exact Or.inl rfl | refine Or.inr ?_))
        · have hl : listedF h.names e x = 0 := by simpa using hl
          rw [if_neg (by simp [hl])] at heq
          exact ⟨wrongSt h ps (e + 1) depth (m + 1), (weak_mk ⟨_, rfl⟩ (by repeat' (first | exact rfl | exact we_rfl rfl | refine ⟨_, _, rfl, ?_, ?_⟩)) rfl rfl rfl (by repeat' (first | exact trivial | exact we_rfl rfl | exact we_int (nxt hlt (by omega)) | refine ⟨⟨_, rfl, ?_⟩, ?_⟩))), h.names.length - (e + 1), by omega, e + 1, rfl, by omega, heq, rfl⟩
      · have hge : e = h.names.length := by simp [dWds_len] at hL; omega
        rw [hge, List.drop_length] at heq
        simp only [enumL] at heq
        rw [heq] at hS
        refine br (fun x => ?_) (fun _ => ?_)
        · simp [pickB_or] at x; omega
        refine br (fun x => ?_) (fun _ => ?_)
        · simp [pickB_or] at x; omega
        refine ⟨_, ?_, rfl⟩
        rw [hS]
        exact (by repeat' (first | exact rfl | exact trivial | exact Or.inr (Or.inl ⟨_, rfl⟩) | exact Or.inr ⟨_, rfl⟩ | exact Or.inl ⟨rfl, rfl⟩ | exact Or.inl rfl | refine Or.inr ⟨_, _, rfl, Nat.zero_le _, rfl, ?_⟩ | refine ⟨_, _, rfl, ?_, ?_⟩ | refine ⟨_, rfl, ?_⟩ | refine Or.inr (Or.inr (Or.inr ⟨_, _, rfl, ?_⟩)) | exact Or.inl rfl | refine Or.inr ?_))
    · have k4 : ¬ h.kind = 4 := of_decide_eq_false k4
      rw [if_neg k4] at hS
      refine br (fun k5 => ?_) (fun k5 => ?_)
      · have k5 : h.kind = 5 ∨ h.kind = 6 := by simpa [pickB_or] using k5
        rw [if_pos k5] at hS
        cases ps with
        | nil =>
          refine call_p (enters_of Tryz.func62 (by decide +kernel) rfl) (hW 19 h.at') (by repeat' (first | exact rfl | exact trivial | exact Or.inr (Or.inl ⟨_, rfl⟩) | exact Or.inr ⟨_, rfl⟩ | exact Or.inl ⟨rfl, rfl⟩ | exact Or.inl rfl | refine Or.inr ⟨_, _, rfl, Nat.zero_le _, rfl, ?_⟩ | refine ⟨_, _, rfl, ?_, ?_⟩ | refine ⟨_, rfl, ?_⟩ | refine Or.inr (Or.inr (Or.inr ⟨_, _, rfl, ?_⟩)) | exact Or.inl rfl | refine Or.inr ?_)) rfl ?_
          refine ⟨_, ?_, rfl⟩
          rw [hS]
          simp only [wrongOne]
          exact (by repeat' (first | exact rfl | exact trivial | exact Or.inr (Or.inl ⟨_, rfl⟩) | exact Or.inr ⟨_, rfl⟩ | exact Or.inl ⟨rfl, rfl⟩ | exact Or.inl rfl | refine Or.inr ⟨_, _, rfl, Nat.zero_le _, rfl, ?_⟩ | refine ⟨_, _, rfl, ?_, ?_⟩ | refine ⟨_, rfl, ?_⟩ | refine Or.inr (Or.inr (Or.inr ⟨_, _, rfl, ?_⟩)) | exact Or.inl rfl | refine Or.inr ?_))
        | cons p t r =>
          cases r with
          | cons p2 t2 r2 =>
            refine call_p (enters_of Tryz.func62 (by decide +kernel) rfl) (hW 19 h.at') (by repeat' (first | exact rfl | exact trivial | exact Or.inr (Or.inl ⟨_, rfl⟩) | exact Or.inr ⟨_, rfl⟩ | exact Or.inl ⟨rfl, rfl⟩ | exact Or.inl rfl | refine Or.inr ⟨_, _, rfl, Nat.zero_le _, rfl, ?_⟩ | refine ⟨_, _, rfl, ?_, ?_⟩ | refine ⟨_, rfl, ?_⟩ | refine Or.inr (Or.inr (Or.inr ⟨_, _, rfl, ?_⟩)) | exact Or.inl rfl | refine Or.inr ?_)) rfl ?_
            refine ⟨_, ?_, rfl⟩
            rw [hS]
            simp only [wrongOne]
            exact (by repeat' (first | exact rfl | exact trivial | exact Or.inr (Or.inl ⟨_, rfl⟩) | exact Or.inr ⟨_, rfl⟩ | exact Or.inl ⟨rfl, rfl⟩ | exact Or.inl rfl | refine Or.inr ⟨_, _, rfl, Nat.zero_le _, rfl, ?_⟩ | refine ⟨_, _, rfl, ?_, ?_⟩ | refine ⟨_, rfl, ?_⟩ | refine Or.inr (Or.inr (Or.inr ⟨_, _, rfl, ?_⟩)) | exact Or.inl rfl | refine Or.inr ?_))
          | nil =>
            obtain ⟨u, us⟩ := t
            simp only [wrongOne] at hS
            simp only [Ty.wt, Pts.wt] at hbig' hk
            refine ⟨_, ⟨by omega, rfl⟩, ?_⟩
            refine br (fun c => ?_) (fun c => ?_)
            · have c : p.name.s = emptyB := by
                have := c
                simp [pickB_or] at this
                exact this
              refine ⟨_, ⟨by omega, rfl⟩, ?_⟩
              refine call_p (enters_of Tryz.func66 (by decide +kernel) rfl) (plain15_spec p zeroPh (dTy (.mk u us)) (dTy zeroTy) (by omega) (cc_ty _ _ _ _ _) (cc_ty _ _ _ _ _)) (by repeat' (first | exact rfl | exact trivial | exact Or.inr (Or.inl ⟨_, rfl⟩) | exact Or.inr ⟨_, rfl⟩ | exact Or.inl ⟨rfl, rfl⟩ | exact Or.inl rfl | refine Or.inr ⟨_, _, rfl, Nat.zero_le _, rfl, ?_⟩ | refine ⟨_, _, rfl, ?_, ?_⟩ | refine ⟨_, rfl, ?_⟩ | refine Or.inr (Or.inr (Or.inr ⟨_, _, rfl, ?_⟩)) | exact Or.inl rfl | refine Or.inr ?_)) rfl ?_
              refine br (fun q => ?_) (fun q => ?_)
              · have q : plainP p zeroPh = false := by simpa [pickB_or, c] using q
                refine call_p (enters_of Tryz.func62 (by decide +kernel) rfl) (hW 19 h.at') (by repeat' (first | exact rfl | exact trivial | exact Or.inr (Or.inl ⟨_, rfl⟩) | exact Or.inr ⟨_, rfl⟩ | exact Or.inl ⟨rfl, rfl⟩ | exact Or.inl rfl | refine Or.inr ⟨_, _, rfl, Nat.zero_le _, rfl, ?_⟩ | refine ⟨_, _, rfl, ?_, ?_⟩ | refine ⟨_, rfl, ?_⟩ | refine Or.inr (Or.inr (Or.inr ⟨_, _, rfl, ?_⟩)) | exact Or.inl rfl | refine Or.inr ?_)) rfl ?_
                rw [if_pos (by simp [q])] at hS
                refine ⟨_, ?_, rfl⟩
                rw [hS]
                exact (by repeat' (first | exact rfl | exact trivial | exact Or.inr (Or.inl ⟨_, rfl⟩) | exact Or.inr ⟨_, rfl⟩ | exact Or.inl ⟨rfl, rfl⟩ | exact Or.inl rfl | refine Or.inr ⟨_, _, rfl, Nat.zero_le _, rfl, ?_⟩ | refine ⟨_, _, rfl, ?_, ?_⟩ | refine ⟨_, rfl, ?_⟩ | refine Or.inr (Or.inr (Or.inr ⟨_, _, rfl, ?_⟩)) | exact Or.inl rfl | refine Or.inr ?_))
              · have q : plainP p zeroPh = true := by simpa [pickB_or, c] using q
                rw [if_neg (by simp [q, c])] at hS
                refine br (fun x => ?_) (fun x => ?_)
                · have x : h.most < 0 ∨ 1024 < h.most := by simpa [pickB_or] using x
                  refine call_p (enters_of Tryz.func62 (by decide +kernel) rfl) (hW 20 h.at') (by repeat' (first | exact rfl | exact trivial | exact Or.inr (Or.inl ⟨_, rfl⟩) | exact Or.inr ⟨_, rfl⟩ | exact Or.inl ⟨rfl, rfl⟩ | exact Or.inl rfl | refine Or.inr ⟨_, _, rfl, Nat.zero_le _, rfl, ?_⟩ | refine ⟨_, _, rfl, ?_, ?_⟩ | refine ⟨_, rfl, ?_⟩ | refine Or.inr (Or.inr (Or.inr ⟨_, _, rfl, ?_⟩)) | exact Or.inl rfl | refine Or.inr ?_)) rfl ?_
                  rw [if_pos x] at hS
                  refine ⟨_, ?_, rfl⟩
                  rw [hS]
                  exact (by repeat' (first | exact rfl | exact trivial | exact Or.inr (Or.inl ⟨_, rfl⟩) | exact Or.inr ⟨_, rfl⟩ | exact Or.inl ⟨rfl, rfl⟩ | exact Or.inl rfl | refine Or.inr ⟨_, _, rfl, Nat.zero_le _, rfl, ?_⟩ | refine ⟨_, _, rfl, ?_, ?_⟩ | refine ⟨_, rfl, ?_⟩ | refine Or.inr (Or.inr (Or.inr ⟨_, _, rfl, ?_⟩)) | exact Or.inl rfl | refine Or.inr ?_))
                · have x : ¬ (h.most < 0 ∨ 1024 < h.most) := by simp [pickB_or] at x; omega
                  rw [if_neg x] at hS
                  refine drawG_s mo (by decide +kernel) ?_
                  refine ⟨_, ⟨by omega, rfl⟩, ?_⟩
                  refine callD_p (enters_of Tryz.func16 (by decide +kernel) rfl) (ih (.mk u us) (depth + 1) (m + 1) (by simp only [Ty.wt]; omega) (by simp only [Ty.wt]; omega) (by omega) (by omega) (by omega) (by omega)) (by repeat' (first | exact rfl | exact trivial | exact Or.inr (Or.inl ⟨_, rfl⟩) | exact Or.inr ⟨_, rfl⟩ | exact Or.inl ⟨rfl, rfl⟩ | exact Or.inl rfl | refine Or.inr ⟨_, _, rfl, Nat.zero_le _, rfl, ?_⟩ | refine ⟨_, _, rfl, ?_, ?_⟩ | refine ⟨_, rfl, ?_⟩ | exact congrArg (fun z => DV.v (.int .i64 z)) hmw | exact congrArg (fun z => DV.v (.int .i64 z)) (wrap64 (by omega) (by omega))| refine Or.inr (Or.inr (Or.inr ⟨_, _, rfl, ?_⟩)) | exact Or.inl rfl | refine Or.inr ?_)) rfl ?_
                  refine ⟨_, ?_, rfl⟩
                  rw [hS]
                  exact (by repeat' (first | exact rfl | exact trivial | exact Or.inr (Or.inl ⟨_, rfl⟩) | exact Or.inr ⟨_, rfl⟩ | exact Or.inl ⟨rfl, rfl⟩ | exact Or.inl rfl | refine Or.inr ⟨_, _, rfl, Nat.zero_le _, rfl, ?_⟩ | refine ⟨_, _, rfl, ?_, ?_⟩ | refine ⟨_, rfl, ?_⟩ | refine Or.inr (Or.inr (Or.inr ⟨_, _, rfl, ?_⟩)) | exact Or.inl rfl | refine Or.inr ?_))
            · have c : p.name.s ≠ emptyB := by
                have := c
                simp [pickB_or] at this
                exact this
              refine call_p (enters_of Tryz.func62 (by decide +kernel) rfl) (hW 19 h.at') (by repeat' (first | exact rfl | exact trivial | exact Or.inr (Or.inl ⟨_, rfl⟩) | exact Or.inr ⟨_, rfl⟩ | exact Or.inl ⟨rfl, rfl⟩ | exact Or.inl rfl | refine Or.inr ⟨_, _, rfl, Nat.zero_le _, rfl, ?_⟩ | refine ⟨_, _, rfl, ?_, ?_⟩ | refine ⟨_, rfl, ?_⟩ | refine Or.inr (Or.inr (Or.inr ⟨_, _, rfl, ?_⟩)) | exact Or.inl rfl | refine Or.inr ?_)) rfl ?_
              rw [if_pos (.inl c)] at hS
              refine ⟨_, ?_, rfl⟩
              rw [hS]
              exact (by repeat' (first | exact rfl | exact trivial | exact Or.inr (Or.inl ⟨_, rfl⟩) | exact Or.inr ⟨_, rfl⟩ | exact Or.inl ⟨rfl, rfl⟩ | exact Or.inl rfl | refine Or.inr ⟨_, _, rfl, Nat.zero_le _, rfl, ?_⟩ | refine ⟨_, _, rfl, ?_, ?_⟩ | refine ⟨_, rfl, ?_⟩ | refine Or.inr (Or.inr (Or.inr ⟨_, _, rfl, ?_⟩)) | exact Or.inl rfl | refine Or.inr ?_))
      · have k5 : ¬ (h.kind = 5 ∨ h.kind = 6) := by simp [pickB_or] at k5; omega
        rw [if_neg k5] at hS
        refine br (fun k7 => ?_) (fun k7 => ?_)
        · have k7 : h.kind = 7 ∨ h.kind = 8 := by simpa [pickB_or] using k7
          rw [if_pos k7] at hS
          have hP : wrong (.mk h ps) depth m = partsF h ps depth (m + 1) := by rw [hS]; rfl
          refine call_p (enters_of Tryz.func67 (by decide +kernel) rfl) (parts15_spec k ih h ps depth (m + 1) hk hbig hd0 (by omega) (by omega) (by omega)) (by repeat' (first | exact rfl | exact trivial | exact Or.inr (Or.inl ⟨_, rfl⟩) | exact Or.inr ⟨_, rfl⟩ | exact Or.inl ⟨rfl, rfl⟩ | exact Or.inl rfl | refine Or.inr ⟨_, _, rfl, Nat.zero_le _, rfl, ?_⟩ | refine ⟨_, _, rfl, ?_, ?_⟩ | refine ⟨_, rfl, ?_⟩ | exact congrArg (fun z => DV.v (.int .i64 z)) hmw| refine Or.inr (Or.inr (Or.inr ⟨_, _, rfl, ?_⟩)) | exact Or.inl rfl | refine Or.inr ?_)) rfl ?_
          refine ⟨_, ?_, rfl⟩
          rw [hP]
          exact (by repeat' (first | exact rfl | exact trivial | exact Or.inr (Or.inl ⟨_, rfl⟩) | exact Or.inr ⟨_, rfl⟩ | exact Or.inl ⟨rfl, rfl⟩ | exact Or.inl rfl | refine Or.inr ⟨_, _, rfl, Nat.zero_le _, rfl, ?_⟩ | refine ⟨_, _, rfl, ?_, ?_⟩ | refine ⟨_, rfl, ?_⟩ | refine Or.inr (Or.inr (Or.inr ⟨_, _, rfl, ?_⟩)) | exact Or.inl rfl | refine Or.inr ?_))
        · have k7 : ¬ (h.kind = 7 ∨ h.kind = 8) := by simp [pickB_or] at k7; omega
          rw [if_neg k7] at hS
          refine ⟨_, ?_, rfl⟩
          rw [hS]
          exact (by repeat' (first | exact rfl | exact trivial | exact Or.inr (Or.inl ⟨_, rfl⟩) | exact Or.inr ⟨_, rfl⟩ | exact Or.inl ⟨rfl, rfl⟩ | exact Or.inl rfl | refine Or.inr ⟨_, _, rfl, Nat.zero_le _, rfl, ?_⟩ | refine ⟨_, _, rfl, ?_, ?_⟩ | refine ⟨_, rfl, ?_⟩ | exact congrArg (fun z => DV.v (.int .i64 z)) hmw | refine Or.inr (Or.inr (Or.inr ⟨_, _, rfl, ?_⟩)) | exact Or.inl rfl | refine Or.inr ?_))

theorem wrong_any : ∀ k, WrongOK k
  | 0 => fun t depth m hk => by have := t.wt_pos; omega
  | k + 1 => fun t depth m hk hbig hd0 hd1 hm0 hm1 => by
    obtain ⟨h, ps⟩ := t
    have hk' := hk
    simp only [Ty.wt, Hd.wt] at hk'
    exact wrong15_step k (wrong_any k) h ps depth m (by omega) hbig hd0 hd1 hm0 hm1

/-- **The reference's Wrong.** -/
theorem wrong15_spec (t : Ty) (depth m : Int) (hbig : t.wt ≤ 1099511627776) (hd0 : 0 ≤ depth) (hd1 : depth ≤ 25) (hm0 : 0 ≤ m) (hm1 : m ≤ 512) :
    EvP Tryz.prog 16 [wD (0, 0) m, .agg (dTy t), .v (.int .i64 depth)] (wD (wrong t depth m).1 (wrong t depth m).2) :=
  wrong_any t.wt t depth m (Nat.le_refl _) hbig hd0 hd1 hm0 hm1
end Go.Proofs.YtmphiikdhifhjaaGreat
