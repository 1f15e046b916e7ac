/- Part 5 of the proof: The reference's answer on schemas that may be written, and their text; The reference's text of a schema that may be written; The reference of chapter 17: Great, Same; The law of a type's text: the call returns true; The law of a schema's text: the call returns true. No condition. -/
import Derived.Test.YtmphiikdhifhjaaGreatMg3
import Derived.Test.YtmphiikdhifhjaaGreatMg4
set_option linter.all false
set_option maxRecDepth 100000
namespace Go.Proofs.YtmphiikdhifhjaaGreat
open Go Go.RowKit Dv Tryz

theorem fine17_spec (t : Ty) (hbig : t.wt ≤ 1099511627776) : EvP Tryz.prog 73 [.agg (dTy t)] (.v (.bool (tyOK t))) := by
  have hw := wrong15_spec t 1 0 hbig (by omega) (by omega) (by omega) (by omega)
  have e0 : tyOK t = decide ((wrong t 1 0).1.1 = 0) := rfl
  rw [e0]
  generalize wrong t 1 0 = w at hw ⊢
  obtain ⟨⟨fe, fa⟩, many⟩ := w
  obtain ⟨h, ps⟩ := t
  refine ev_go (P := Tryz.prog) tt tt_ok 5000 9 [.tmp 2] Tryz.func73 rfl Tryz.ntmps73 rfl (Nat.le_of_ble_eq_true rfl) (fun E9 w9 hn9 hm9 => ?_)
  refine call_p (enters_of Tryz.func16 (by decide +kernel) rfl) (hw) (by repeat' (first | exact rfl | exact trivial | exact Or.inr (Or.inl ⟨_, rfl⟩) | exact Or.inr ⟨_, rfl⟩ | exact Or.inl ⟨rfl, rfl⟩ | exact Or.inl rfl | refine Or.inr ⟨_, _, rfl, Nat.zero_le _, rfl, ?_⟩ | refine ⟨_, _, rfl, ?_, ?_⟩ | refine ⟨_, rfl, ?_⟩ | refine Or.inr (Or.inr (Or.inr ⟨_, _, rfl, ?_⟩)) | exact Or.inl rfl | refine Or.inr ?_)) rfl ?_
  exact (rfl : _ = _)

theorem we_pk {n m : Nat} {tk' : List TkE} {b : Bool} : We n m tk' (.v (.bool (pickB true b false))) (.v (.bool b)) := .inl ⟨rfl, rfl⟩
theorem we_pf {n m : Nat} {tk' : List TkE} {b x : Bool} (h : b = false) : We n m tk' (.v (.bool (pickB b x false))) (.v (.bool false)) := .inl ⟨by rw [h]; rfl, rfl⟩

abbrev r17S (n : Nat) (s : Sch) (acc : Bool) (e : Nat) : St :=
  ⟨[(1, ⟨[], .loc 0 0⟩), (3, ⟨[], .v (.bool acc)⟩), (n, ⟨[], .v (.int .i64 e)⟩)], [dSch s], []⟩

theorem right17_spec (s : Sch) (hbig : s.wt ≤ 1099511627776) : EvP Tryz.prog 20 [.agg (dSch s)] (.v (.bool (rightB s))) := by
  have h1 := wdsWt_len s.levels
  have h2 := prsWt_len s.order
  have h3 := nmsWt_len s.types
  simp only [Sch.wt] at hbig
  have hroot := fine17_spec s.root (by omega)
  have hF : rightB s = (((decide (0 < (s.levels.length : Int)) && tyOK s.root) && s.levels.all fun w => nameOK w.s) && ((s.order.all fun p => nameOK p.1.s && nameOK p.2.s) && s.types.all fun x => nameOK x.1.s && tyOK x.2)) := by
    have e1 : decide (0 < (s.levels.length : Int)) = decide (s.levels ≠ []) := by
      rw [Bool.eq_iff_iff]
      cases s.levels <;> simp
    rw [e1]
    unfold rightB
    generalize decide (s.levels ≠ []) = a
    generalize tyOK s.root = b
    generalize (s.levels.all fun w => nameOK w.s) = c
    generalize (s.order.all fun p => nameOK p.1.s && nameOK p.2.s) = d
    generalize (s.types.all fun x => nameOK x.1.s && tyOK x.2) = f
    revert a b c d f
    decide
  generalize rightB s = F at hF ⊢
  obtain ⟨levels, order, types, ⟨h, ps⟩⟩ := s
  simp only at h1 h2 h3 hbig hroot hF
  refine ev_go (P := Tryz.prog) tt tt_ok 5000 89 [.tmp 2] Tryz.func20 rfl Tryz.ntmps20 rfl (Nat.le_of_ble_eq_true rfl) (fun E9 w9 hn9 hm9 => ?_)
  refine br (fun g => ?_) (fun g => ?_)
  · have g : 0 < levels.length := by
      have := g
      simp [dWds_len] at this
      omega
    have hF0 : F = ((tyOK (.mk h ps) && (levels.drop 0).all fun w => nameOK w.s) && ((order.all fun p => nameOK p.1.s && nameOK p.2.s) && types.all fun x => nameOK x.1.s && tyOK x.2)) := by
      rw [hF, decide_eq_true (by omega), Bool.true_and]; rfl
    refine call_p (enters_of Tryz.func73 (by decide +kernel) rfl) (hroot) (by repeat' (first | exact rfl | exact trivial | exact Or.inr (Or.inl ⟨_, rfl⟩) | exact Or.inr ⟨_, rfl⟩ | exact Or.inl ⟨rfl, rfl⟩ | exact Or.inl rfl | refine Or.inr ⟨_, _, rfl, Nat.zero_le _, rfl, ?_⟩ | refine ⟨_, _, rfl, ?_, ?_⟩ | refine ⟨_, rfl, ?_⟩ | refine Or.inr (Or.inr (Or.inr ⟨_, _, rfl, ?_⟩)) | exact Or.inl rfl | refine Or.inr ?_)) rfl ?_
    refine loop_i (fun j st => ∃ (acc : Bool) (e : Nat), st = r17S 4 ⟨levels, order, types, .mk h ps⟩ acc e ∧ e ≤ levels.length ∧ F = ((acc && (levels.drop e).all fun w => nameOK w.s) && ((order.all fun p => nameOK p.1.s && nameOK p.2.s) && types.all fun x => nameOK x.1.s && tyOK x.2)) ∧ j = levels.length - e) levels.length
      (r17S 4 ⟨levels, order, types, .mk h ps⟩ (tyOK (.mk h ps)) 0) (weak_mk ⟨_, rfl⟩ (by repeat' (first | exact rfl | exact we_rfl rfl | refine ⟨_, _, rfl, ?_, ?_⟩)) rfl rfl rfl (by repeat' (first | exact trivial | exact we_rfl rfl | exact we_pk | refine ⟨⟨_, rfl, ?_⟩, ?_⟩))) ⟨_, 0, rfl, by omega, hF0, by omega⟩ ?_
    rintro j st ⟨acc, e, rfl, he, heq, rfl⟩
    refine br (fun hL => ?_) (fun hL => ?_)
    · have hlt : e < levels.length := by have := hL; simp [dWds_len] at this; exact this
      obtain ⟨w, hw⟩ : ∃ w, levels[e]? = some w := ⟨_, List.getElem?_eq_getElem hlt⟩
      have hws := wdsWt_mem (List.mem_of_getElem? hw)
      rw [drop_cons hw, List.all_cons] at heq
      cases acc with
      | true =>
        refine ⟨dWd w, ⟨by omega, dWds_get hw⟩, ?_⟩
        refine call_p (enters_of Tryz.func64 (by decide +kernel) rfl) (right8_spec w.s (by omega)) (by repeat' (first | exact rfl | exact trivial | exact Or.inr (Or.inl ⟨_, rfl⟩) | exact Or.inr ⟨_, rfl⟩ | exact Or.inl ⟨rfl, rfl⟩ | exact Or.inl rfl | refine Or.inr ⟨_, _, rfl, Nat.zero_le _, rfl, ?_⟩ | refine ⟨_, _, rfl, ?_, ?_⟩ | refine ⟨_, rfl, ?_⟩ | refine Or.inr (Or.inr (Or.inr ⟨_, _, rfl, ?_⟩)) | exact Or.inl rfl | refine Or.inr ?_)) rfl ?_
        exact ⟨r17S 4 ⟨levels, order, types, .mk h ps⟩ (nameOK w.s) (e + 1), (weak_mk ⟨_, rfl⟩ (by repeat' (first | exact rfl | exact we_rfl rfl | refine ⟨_, _, rfl, ?_, ?_⟩)) rfl rfl rfl (by repeat' (first | exact trivial | exact we_rfl rfl | exact we_int (nxt hlt (by omega)) | exact we_pk | refine ⟨⟨_, rfl, ?_⟩, ?_⟩))), levels.length - (e + 1), by omega, _, e + 1, rfl, by omega, by rw [heq, Bool.true_and], rfl⟩
      | false =>
        exact ⟨r17S 4 ⟨levels, order, types, .mk h ps⟩ false (e + 1), (weak_mk ⟨_, rfl⟩ (by repeat' (first | exact rfl | exact we_rfl rfl | refine ⟨_, _, rfl, ?_, ?_⟩)) rfl rfl rfl (by repeat' (first | exact trivial | exact we_rfl rfl | exact we_int (nxt hlt (by omega)) | refine ⟨⟨_, rfl, ?_⟩, ?_⟩))), levels.length - (e + 1), by omega, _, e + 1, rfl, by omega, by rw [heq]; rfl, rfl⟩
    have hge : e = levels.length := by have := hL; simp [dWds_len] at this; omega
    rw [hge, List.drop_length, List.all_nil, Bool.and_true] at heq
    refine loop_i (fun j st => ∃ (acc : Bool) (e : Nat), st = r17S 5 ⟨levels, order, types, .mk h ps⟩ acc e ∧ e ≤ order.length ∧ F = (acc && (((order.drop e).all fun p => nameOK p.1.s && nameOK p.2.s) && types.all fun x => nameOK x.1.s && tyOK x.2)) ∧ j = order.length - e) order.length
      (r17S 5 ⟨levels, order, types, .mk h ps⟩ acc 0) (weak_mk ⟨_, rfl⟩ (by repeat' (first | exact rfl | exact we_rfl rfl | refine ⟨_, _, rfl, ?_, ?_⟩)) rfl rfl rfl (by repeat' (first | exact trivial | exact we_rfl rfl | refine ⟨⟨_, rfl, ?_⟩, ?_⟩))) ⟨_, 0, rfl, by omega, heq, by omega⟩ ?_
    clear heq hge he hL
    rintro j st ⟨acc, e, rfl, he, heq, rfl⟩
    refine br (fun hL => ?_) (fun hL => ?_)
    · have hlt : e < order.length := by have := hL; simp [dPrs_len] at this; exact this
      obtain ⟨w, hw⟩ : ∃ w, order[e]? = some w := ⟨_, List.getElem?_eq_getElem hlt⟩
      have hws := prsWt_mem (List.mem_of_getElem? hw)
      simp only [Wd.wt] at hws
      rw [drop_cons hw, List.all_cons] at heq
      cases acc with
      | true =>
        refine ⟨_, ⟨by omega, dPrs_get hw⟩, ?_⟩
        refine call_p (enters_of Tryz.func64 (by decide +kernel) rfl) (right8_spec w.1.s (by omega)) (by repeat' (first | exact rfl | exact trivial | exact Or.inr (Or.inl ⟨_, rfl⟩) | exact Or.inr ⟨_, rfl⟩ | exact Or.inl ⟨rfl, rfl⟩ | exact Or.inl rfl | refine Or.inr ⟨_, _, rfl, Nat.zero_le _, rfl, ?_⟩ | refine ⟨_, _, rfl, ?_, ?_⟩ | refine ⟨_, rfl, ?_⟩ | refine Or.inr (Or.inr (Or.inr ⟨_, _, rfl, ?_⟩)) | exact Or.inl rfl | refine Or.inr ?_)) rfl ?_
        refine br (fun b1 => ?_) (fun b1 => ?_)
        · have b1 : nameOK w.1.s = true := by simpa [pickB] using b1
          refine ⟨_, ⟨by omega, dPrs_get hw⟩, ?_⟩
          refine call_p (enters_of Tryz.func64 (by decide +kernel) rfl) (right8_spec w.2.s (by omega)) (by repeat' (first | exact rfl | exact trivial | exact Or.inr (Or.inl ⟨_, rfl⟩) | exact Or.inr ⟨_, rfl⟩ | exact Or.inl ⟨rfl, rfl⟩ | exact Or.inl rfl | refine Or.inr ⟨_, _, rfl, Nat.zero_le _, rfl, ?_⟩ | refine ⟨_, _, rfl, ?_, ?_⟩ | refine ⟨_, rfl, ?_⟩ | refine Or.inr (Or.inr (Or.inr ⟨_, _, rfl, ?_⟩)) | exact Or.inl rfl | refine Or.inr ?_)) rfl ?_
          exact ⟨r17S 5 ⟨levels, order, types, .mk h ps⟩ (nameOK w.2.s) (e + 1), (weak_mk ⟨_, rfl⟩ (by repeat' (first | exact rfl | exact we_rfl rfl | refine ⟨_, _, rfl, ?_, ?_⟩)) rfl rfl rfl (by repeat' (first | exact trivial | exact we_rfl rfl | exact we_int (nxt hlt (by omega)) | exact we_pk | refine ⟨⟨_, rfl, ?_⟩, ?_⟩))), order.length - (e + 1), by omega, _, e + 1, rfl, by omega, by rw [heq, b1, Bool.true_and, Bool.true_and, Bool.and_assoc], rfl⟩
        · have b1 : nameOK w.1.s = false := by simpa [pickB] using b1
          exact ⟨r17S 5 ⟨levels, order, types, .mk h ps⟩ false (e + 1), (weak_mk ⟨_, rfl⟩ (by repeat' (first | exact rfl | exact we_rfl rfl | refine ⟨_, _, rfl, ?_, ?_⟩)) rfl rfl rfl (by repeat' (first | exact trivial | exact we_rfl rfl | exact we_int (nxt hlt (by omega)) | exact we_pf b1 | refine ⟨⟨_, rfl, ?_⟩, ?_⟩))), order.length - (e + 1), by omega, _, e + 1, rfl, by omega, by rw [heq, b1]; rfl, rfl⟩
      | false =>
        exact ⟨r17S 5 ⟨levels, order, types, .mk h ps⟩ false (e + 1), (weak_mk ⟨_, rfl⟩ (by repeat' (first | exact rfl | exact we_rfl rfl | refine ⟨_, _, rfl, ?_, ?_⟩)) rfl rfl rfl (by repeat' (first | exact trivial | exact we_rfl rfl | exact we_int (nxt hlt (by omega)) | refine ⟨⟨_, rfl, ?_⟩, ?_⟩))), order.length - (e + 1), by omega, _, e + 1, rfl, by omega, by rw [heq]; rfl, rfl⟩
    have hge : e = order.length := by have := hL; simp [dPrs_len] at this; omega
    rw [hge, List.drop_length, List.all_nil, Bool.true_and] at heq
    refine loop_i (fun j st => ∃ (acc : Bool) (e : Nat), st = r17S 6 ⟨levels, order, types, .mk h ps⟩ acc e ∧ e ≤ types.length ∧ F = (acc && (types.drop e).all fun x => nameOK x.1.s && tyOK x.2) ∧ j = types.length - e) types.length
      (r17S 6 ⟨levels, order, types, .mk h ps⟩ acc 0) (weak_mk ⟨_, rfl⟩ (by repeat' (first | exact rfl | exact we_rfl rfl | refine ⟨_, _, rfl, ?_, ?_⟩)) rfl rfl rfl (by repeat' (first | exact trivial | exact we_rfl rfl | refine ⟨⟨_, rfl, ?_⟩, ?_⟩))) ⟨_, 0, rfl, by omega, heq, by omega⟩ ?_
    clear heq hge he hL
    rintro j st ⟨acc, e, rfl, he, heq, rfl⟩
    refine br (fun hL => ?_) (fun hL => ?_)
    · have hlt : e < types.length := by have := hL; simp [dNms_len] at this; exact this
      obtain ⟨w, hw⟩ : ∃ w, types[e]? = some w := ⟨_, List.getElem?_eq_getElem hlt⟩
      have hws := nmsWt_mem (List.mem_of_getElem? hw)
      simp only [Wd.wt] at hws
      rw [drop_cons hw, List.all_cons] at heq
      have hfi := fine17_spec w.2 (by omega)
      obtain ⟨w, u, us⟩ := w
      simp only at hws heq hfi
      cases acc with
      | true =>
        refine ⟨_, ⟨by omega, dNms_get hw⟩, ?_⟩
        refine call_p (enters_of Tryz.func64 (by decide +kernel) rfl) (right8_spec w.s (by omega)) (by repeat' (first | exact rfl | exact trivial | exact Or.inr (Or.inl ⟨_, rfl⟩) | exact Or.inr ⟨_, rfl⟩ | exact Or.inl ⟨rfl, rfl⟩ | exact Or.inl rfl | refine Or.inr ⟨_, _, rfl, Nat.zero_le _, rfl, ?_⟩ | refine ⟨_, _, rfl, ?_, ?_⟩ | refine ⟨_, rfl, ?_⟩ | refine Or.inr (Or.inr (Or.inr ⟨_, _, rfl, ?_⟩)) | exact Or.inl rfl | refine Or.inr ?_)) rfl ?_
        refine br (fun b1 => ?_) (fun b1 => ?_)
        · have b1 : nameOK w.s = true := by simpa [pickB] using b1
          refine ⟨_, ⟨by omega, dNms_get hw⟩, ?_⟩
          refine call_p (enters_of Tryz.func73 (by decide +kernel) rfl) (hfi) (by repeat' (first | exact rfl | exact trivial | exact Or.inr (Or.inl ⟨_, rfl⟩) | exact Or.inr ⟨_, rfl⟩ | exact Or.inl ⟨rfl, rfl⟩ | exact Or.inl rfl | refine Or.inr ⟨_, _, rfl, Nat.zero_le _, rfl, ?_⟩ | refine ⟨_, _, rfl, ?_, ?_⟩ | refine ⟨_, rfl, ?_⟩ | refine Or.inr (Or.inr (Or.inr ⟨_, _, rfl, ?_⟩)) | exact Or.inl rfl | refine Or.inr ?_)) rfl ?_
          exact ⟨r17S 6 ⟨levels, order, types, .mk h ps⟩ (tyOK (.mk u us)) (e + 1), (weak_mk ⟨_, rfl⟩ (by repeat' (first | exact rfl | exact we_rfl rfl | refine ⟨_, _, rfl, ?_, ?_⟩)) rfl rfl rfl (by repeat' (first | exact trivial | exact we_rfl rfl | exact we_int (nxt hlt (by omega)) | exact we_pk | refine ⟨⟨_, rfl, ?_⟩, ?_⟩))), types.length - (e + 1), by omega, _, e + 1, rfl, by omega, by rw [heq, b1, Bool.true_and, Bool.true_and], rfl⟩
        · have b1 : nameOK w.s = false := by simpa [pickB] using b1
          exact ⟨r17S 6 ⟨levels, order, types, .mk h ps⟩ false (e + 1), (weak_mk ⟨_, rfl⟩ (by repeat' (first | exact rfl | exact we_rfl rfl | refine ⟨_, _, rfl, ?_, ?_⟩)) rfl rfl rfl (by repeat' (first | exact trivial | exact we_rfl rfl | exact we_int (nxt hlt (by omega)) | exact we_pf b1 | refine ⟨⟨_, rfl, ?_⟩, ?_⟩))), types.length - (e + 1), by omega, _, e + 1, rfl, by omega, by rw [heq, b1]; rfl, rfl⟩
      | false =>
        exact ⟨r17S 6 ⟨levels, order, types, .mk h ps⟩ false (e + 1), (weak_mk ⟨_, rfl⟩ (by repeat' (first | exact rfl | exact we_rfl rfl | refine ⟨_, _, rfl, ?_, ?_⟩)) rfl rfl rfl (by repeat' (first | exact trivial | exact we_rfl rfl | exact we_int (nxt hlt (by omega)) | refine ⟨⟨_, rfl, ?_⟩, ?_⟩))), types.length - (e + 1), by omega, _, e + 1, rfl, by omega, by rw [heq]; rfl, rfl⟩
    have hge : e = types.length := by have := hL; simp [dNms_len] at this; omega
    rw [hge, List.drop_length, List.all_nil, Bool.and_true] at heq
    refine (congrArg (fun b => DV.v (.bool b)) ?_ : _ = _)
    exact heq.symm
  · have g : ¬ 0 < levels.length := by
      have := g
      simp [dWds_len] at this
      simp [this]
    have hF0 : F = ((false && (levels.drop 0).all fun w => nameOK w.s) && ((order.all fun p => nameOK p.1.s && nameOK p.2.s) && types.all fun x => nameOK x.1.s && tyOK x.2)) := by
      rw [hF, decide_eq_false (by omega)]; rfl
    refine loop_i (fun j st => ∃ (acc : Bool) (e : Nat), st = r17S 4 ⟨levels, order, types, .mk h ps⟩ acc e ∧ e ≤ levels.length ∧ F = ((acc && (levels.drop e).all fun w => nameOK w.s) && ((order.all fun p => nameOK p.1.s && nameOK p.2.s) && types.all fun x => nameOK x.1.s && tyOK x.2)) ∧ j = levels.length - e) levels.length
      (r17S 4 ⟨levels, order, types, .mk h ps⟩ false 0) (weak_mk ⟨_, rfl⟩ (by repeat' (first | exact rfl | exact we_rfl rfl | refine ⟨_, _, rfl, ?_, ?_⟩)) rfl rfl rfl (by repeat' (first | exact trivial | exact we_rfl rfl | refine ⟨⟨_, rfl, ?_⟩, ?_⟩))) ⟨_, 0, rfl, by omega, hF0, by omega⟩ ?_
    rintro j st ⟨acc, e, rfl, he, heq, rfl⟩
    refine br (fun hL => ?_) (fun hL => ?_)
    · have hlt : e < levels.length := by have := hL; simp [dWds_len] at this; exact this
      obtain ⟨w, hw⟩ : ∃ w, levels[e]? = some w := ⟨_, List.getElem?_eq_getElem hlt⟩
      have hws := wdsWt_mem (List.mem_of_getElem? hw)
      rw [drop_cons hw, List.all_cons] at heq
      cases acc with
      | true =>
        refine ⟨dWd w, ⟨by omega, dWds_get hw⟩, ?_⟩
        refine call_p (enters_of Tryz.func64 (by decide +kernel) rfl) (right8_spec w.s (by omega)) (by repeat' (first | exact rfl | exact trivial | exact Or.inr (Or.inl ⟨_, rfl⟩) | exact Or.inr ⟨_, rfl⟩ | exact Or.inl ⟨rfl, rfl⟩ | exact Or.inl rfl | refine Or.inr ⟨_, _, rfl, Nat.zero_le _, rfl, ?_⟩ | refine ⟨_, _, rfl, ?_, ?_⟩ | refine ⟨_, rfl, ?_⟩ | refine Or.inr (Or.inr (Or.inr ⟨_, _, rfl, ?_⟩)) | exact Or.inl rfl | refine Or.inr ?_)) rfl ?_
        exact ⟨r17S 4 ⟨levels, order, types, .mk h ps⟩ (nameOK w.s) (e + 1), (weak_mk ⟨_, rfl⟩ (by repeat' (first | exact rfl | exact we_rfl rfl | refine ⟨_, _, rfl, ?_, ?_⟩)) rfl rfl rfl (by repeat' (first | exact trivial | exact we_rfl rfl | exact we_int (nxt hlt (by omega)) | exact we_pk | refine ⟨⟨_, rfl, ?_⟩, ?_⟩))), levels.length - (e + 1), by omega, _, e + 1, rfl, by omega, by rw [heq, Bool.true_and], rfl⟩
      | false =>
        exact ⟨r17S 4 ⟨levels, order, types, .mk h ps⟩ false (e + 1), (weak_mk ⟨_, rfl⟩ (by repeat' (first | exact rfl | exact we_rfl rfl | refine ⟨_, _, rfl, ?_, ?_⟩)) rfl rfl rfl (by repeat' (first | exact trivial | exact we_rfl rfl | exact we_int (nxt hlt (by omega)) | refine ⟨⟨_, rfl, ?_⟩, ?_⟩))), levels.length - (e + 1), by omega, _, e + 1, rfl, by omega, by rw [heq]; rfl, rfl⟩
    have hge : e = levels.length := by have := hL; simp [dWds_len] at this; omega
    rw [hge, List.drop_length, List.all_nil, Bool.and_true] at heq
    refine loop_i (fun j st => ∃ (acc : Bool) (e : Nat), st = r17S 5 ⟨levels, order, types, .mk h ps⟩ acc e ∧ e ≤ order.length ∧ F = (acc && (((order.drop e).all fun p => nameOK p.1.s && nameOK p.2.s) && types.all fun x => nameOK x.1.s && tyOK x.2)) ∧ j = order.length - e) order.length
      (r17S 5 ⟨levels, order, types, .mk h ps⟩ acc 0) (weak_mk ⟨_, rfl⟩ (by repeat' (first | exact rfl | exact we_rfl rfl | refine ⟨_, _, rfl, ?_, ?_⟩)) rfl rfl rfl (by repeat' (first | exact trivial | exact we_rfl rfl | refine ⟨⟨_, rfl, ?_⟩, ?_⟩))) ⟨_, 0, rfl, by omega, heq, by omega⟩ ?_
    clear heq hge he hL
    rintro j st ⟨acc, e, rfl, he, heq, rfl⟩
    refine br (fun hL => ?_) (fun hL => ?_)
    · have hlt : e < order.length := by have := hL; simp [dPrs_len] at this; exact this
      obtain ⟨w, hw⟩ : ∃ w, order[e]? = some w := ⟨_, List.getElem?_eq_getElem hlt⟩
      have hws := prsWt_mem (List.mem_of_getElem? hw)
      simp only [Wd.wt] at hws
      rw [drop_cons hw, List.all_cons] at heq
      cases acc with
      | true =>
        refine ⟨_, ⟨by omega, dPrs_get hw⟩, ?_⟩
        refine call_p (enters_of Tryz.func64 (by decide +kernel) rfl) (right8_spec w.1.s (by omega)) (by repeat' (first | exact rfl | exact trivial | exact Or.inr (Or.inl ⟨_, rfl⟩) | exact Or.inr ⟨_, rfl⟩ | exact Or.inl ⟨rfl, rfl⟩ | exact Or.inl rfl | refine Or.inr ⟨_, _, rfl, Nat.zero_le _, rfl, ?_⟩ | refine ⟨_, _, rfl, ?_, ?_⟩ | refine ⟨_, rfl, ?_⟩ | refine Or.inr (Or.inr (Or.inr ⟨_, _, rfl, ?_⟩)) | exact Or.inl rfl | refine Or.inr ?_)) rfl ?_
        refine br (fun b1 => ?_) (fun b1 => ?_)
        · have b1 : nameOK w.1.s = true := by simpa [pickB] using b1
          refine ⟨_, ⟨by omega, dPrs_get hw⟩, ?_⟩
          refine call_p (enters_of Tryz.func64 (by decide +kernel) rfl) (right8_spec w.2.s (by omega)) (by repeat' (first | exact rfl | exact trivial | exact Or.inr (Or.inl ⟨_, rfl⟩) | exact Or.inr ⟨_, rfl⟩ | exact Or.inl ⟨rfl, rfl⟩ | exact Or.inl rfl | refine Or.inr ⟨_, _, rfl, Nat.zero_le _, rfl, ?_⟩ | refine ⟨_, _, rfl, ?_, ?_⟩ | refine ⟨_, rfl, ?_⟩ | refine Or.inr (Or.inr (Or.inr ⟨_, _, rfl, ?_⟩)) | exact Or.inl rfl | refine Or.inr ?_)) rfl ?_
          exact ⟨r17S 5 ⟨levels, order, types, .mk h ps⟩ (nameOK w.2.s) (e + 1), (weak_mk ⟨_, rfl⟩ (by repeat' (first | exact rfl | exact we_rfl rfl | refine ⟨_, _, rfl, ?_, ?_⟩)) rfl rfl rfl (by repeat' (first | exact trivial | exact we_rfl rfl | exact we_int (nxt hlt (by omega)) | exact we_pk | refine ⟨⟨_, rfl, ?_⟩, ?_⟩))), order.length - (e + 1), by omega, _, e + 1, rfl, by omega, by rw [heq, b1, Bool.true_and, Bool.true_and, Bool.and_assoc], rfl⟩
        · have b1 : nameOK w.1.s = false := by simpa [pickB] using b1
          exact ⟨r17S 5 ⟨levels, order, types, .mk h ps⟩ false (e + 1), (weak_mk ⟨_, rfl⟩ (by repeat' (first | exact rfl | exact we_rfl rfl | refine ⟨_, _, rfl, ?_, ?_⟩)) rfl rfl rfl (by repeat' (first | exact trivial | exact we_rfl rfl | exact we_int (nxt hlt (by omega)) | exact we_pf b1 | refine ⟨⟨_, rfl, ?_⟩, ?_⟩))), order.length - (e + 1), by omega, _, e + 1, rfl, by omega, by rw [heq, b1]; rfl, rfl⟩
      | false =>
        exact ⟨r17S 5 ⟨levels, order, types, .mk h ps⟩ false (e + 1), (weak_mk ⟨_, rfl⟩ (by repeat' (first | exact rfl | exact we_rfl rfl | refine ⟨_, _, rfl, ?_, ?_⟩)) rfl rfl rfl (by repeat' (first | exact trivial | exact we_rfl rfl | exact we_int (nxt hlt (by omega)) | refine ⟨⟨_, rfl, ?_⟩, ?_⟩))), order.length - (e + 1), by omega, _, e + 1, rfl, by omega, by rw [heq]; rfl, rfl⟩
    have hge : e = order.length := by have := hL; simp [dPrs_len] at this; omega
    rw [hge, List.drop_length, List.all_nil, Bool.true_and] at heq
    refine loop_i (fun j st => ∃ (acc : Bool) (e : Nat), st = r17S 6 ⟨levels, order, types, .mk h ps⟩ acc e ∧ e ≤ types.length ∧ F = (acc && (types.drop e).all fun x => nameOK x.1.s && tyOK x.2) ∧ j = types.length - e) types.length
      (r17S 6 ⟨levels, order, types, .mk h ps⟩ acc 0) (weak_mk ⟨_, rfl⟩ (by repeat' (first | exact rfl | exact we_rfl rfl | refine ⟨_, _, rfl, ?_, ?_⟩)) rfl rfl rfl (by repeat' (first | exact trivial | exact we_rfl rfl | refine ⟨⟨_, rfl, ?_⟩, ?_⟩))) ⟨_, 0, rfl, by omega, heq, by omega⟩ ?_
    clear heq hge he hL
    rintro j st ⟨acc, e, rfl, he, heq, rfl⟩
    refine br (fun hL => ?_) (fun hL => ?_)
    · have hlt : e < types.length := by have := hL; simp [dNms_len] at this; exact this
      obtain ⟨w, hw⟩ : ∃ w, types[e]? = some w := ⟨_, List.getElem?_eq_getElem hlt⟩
      have hws := nmsWt_mem (List.mem_of_getElem? hw)
      simp only [Wd.wt] at hws
      rw [drop_cons hw, List.all_cons] at heq
      have hfi := fine17_spec w.2 (by omega)
      obtain ⟨w, u, us⟩ := w
      simp only at hws heq hfi
      cases acc with
      | true =>
        refine ⟨_, ⟨by omega, dNms_get hw⟩, ?_⟩
        refine call_p (enters_of Tryz.func64 (by decide +kernel) rfl) (right8_spec w.s (by omega)) (by repeat' (first | exact rfl | exact trivial | exact Or.inr (Or.inl ⟨_, rfl⟩) | exact Or.inr ⟨_, rfl⟩ | exact Or.inl ⟨rfl, rfl⟩ | exact Or.inl rfl | refine Or.inr ⟨_, _, rfl, Nat.zero_le _, rfl, ?_⟩ | refine ⟨_, _, rfl, ?_, ?_⟩ | refine ⟨_, rfl, ?_⟩ | refine Or.inr (Or.inr (Or.inr ⟨_, _, rfl, ?_⟩)) | exact Or.inl rfl | refine Or.inr ?_)) rfl ?_
        refine br (fun b1 => ?_) (fun b1 => ?_)
        · have b1 : nameOK w.s = true := by simpa [pickB] using b1
          refine ⟨_, ⟨by omega, dNms_get hw⟩, ?_⟩
          refine call_p (enters_of Tryz.func73 (by decide +kernel) rfl) (hfi) (by repeat' (first | exact rfl | exact trivial | exact Or.inr (Or.inl ⟨_, rfl⟩) | exact Or.inr ⟨_, rfl⟩ | exact Or.inl ⟨rfl, rfl⟩ | exact Or.inl rfl | refine Or.inr ⟨_, _, rfl, Nat.zero_le _, rfl, ?_⟩ | refine ⟨_, _, rfl, ?_, ?_⟩ | refine ⟨_, rfl, ?_⟩ | refine Or.inr (Or.inr (Or.inr ⟨_, _, rfl, ?_⟩)) | exact Or.inl rfl | refine Or.inr ?_)) rfl ?_
          exact ⟨r17S 6 ⟨levels, order, types, .mk h ps⟩ (tyOK (.mk u us)) (e + 1), (weak_mk ⟨_, rfl⟩ (by repeat' (first | exact rfl | exact we_rfl rfl | refine ⟨_, _, rfl, ?_, ?_⟩)) rfl rfl rfl (by repeat' (first | exact trivial | exact we_rfl rfl | exact we_int (nxt hlt (by omega)) | exact we_pk | refine ⟨⟨_, rfl, ?_⟩, ?_⟩))), types.length - (e + 1), by omega, _, e + 1, rfl, by omega, by rw [heq, b1, Bool.true_and, Bool.true_and], rfl⟩
        · have b1 : nameOK w.s = false := by simpa [pickB] using b1
          exact ⟨r17S 6 ⟨levels, order, types, .mk h ps⟩ false (e + 1), (weak_mk ⟨_, rfl⟩ (by repeat' (first | exact rfl | exact we_rfl rfl | refine ⟨_, _, rfl, ?_, ?_⟩)) rfl rfl rfl (by repeat' (first | exact trivial | exact we_rfl rfl | exact we_int (nxt hlt (by omega)) | exact we_pf b1 | refine ⟨⟨_, rfl, ?_⟩, ?_⟩))), types.length - (e + 1), by omega, _, e + 1, rfl, by omega, by rw [heq, b1]; rfl, rfl⟩
      | false =>
        exact ⟨r17S 6 ⟨levels, order, types, .mk h ps⟩ false (e + 1), (weak_mk ⟨_, rfl⟩ (by repeat' (first | exact rfl | exact we_rfl rfl | refine ⟨_, _, rfl, ?_, ?_⟩)) rfl rfl rfl (by repeat' (first | exact trivial | exact we_rfl rfl | exact we_int (nxt hlt (by omega)) | refine ⟨⟨_, rfl, ?_⟩, ?_⟩))), types.length - (e + 1), by omega, _, e + 1, rfl, by omega, by rw [heq]; rfl, rfl⟩
    have hge : e = types.length := by have := hL; simp [dNms_len] at this; omega
    rw [hge, List.drop_length, List.all_nil, Bool.and_true] at heq
    refine (congrArg (fun b => DV.v (.bool b)) ?_ : _ = _)
    exact heq.symm
end Go.Proofs.YtmphiikdhifhjaaGreat
set_option maxRecDepth 100000
namespace Go.Proofs.YtmphiikdhifhjaaGreat
open Go Go.RowKit Dv Tryz

def lvT (s : Sch) (e : Nat) : List UInt8 := [108, 101, 118, 101, 108, 115, 32, 123] ++ joinT [] [44, 32] ((s.levels.map wdT).take e)
def orT (s : Sch) (e : Nat) : List UInt8 := headS s ++ joinT [] [44, 32] ((s.order.map prT).take e)

theorem lvT_snoc {s : Sch} {e : Nat} {x : Wd} (h : s.levels[e]? = some x) : lvT s (e + 1) = lvT s e ++ (if e = 0 then [] else [44, 32]) ++ tx x.s := by
  unfold lvT
  rw [joinT_take (l := s.levels.map wdT) (x := wdT x) (by simp [h])]
  simp only [wdT, List.append_assoc]
theorem orT_snoc {s : Sch} {e : Nat} {x : Wd × Wd} (h : s.order[e]? = some x) : orT s (e + 1) = orT s e ++ (if e = 0 then [] else [44, 32]) ++ prT x := by
  unfold orT
  rw [joinT_take (l := s.order.map prT) (x := prT x) (by simp [h])]
  simp only [List.append_assoc]
theorem lvT_len (s : Sch) (e : Nat) : (lvT s e).length ≤ wdsWt s.levels + 20 := by
  have j1 := joinT_len (f := []) (s := [44, 32]) (by simp) (by simp) ((s.levels.map wdT).take e)
  have j2 := jl_take (s.levels.map wdT) e
  have j3 := jl_wds s.levels
  simp only [lvT, List.length_append, List.length_cons, List.length_nil]
  omega
theorem headS_len (s : Sch) : (headS s).length ≤ wdsWt s.levels + 30 := by
  have j1 := joinT_len (f := []) (s := [44, 32]) (by simp) (by simp) (s.levels.map wdT)
  have j3 := jl_wds s.levels
  simp only [headS, List.length_append, List.length_cons, List.length_nil]
  omega
theorem orT_len (s : Sch) (e : Nat) : (orT s e).length ≤ wdsWt s.levels + prsWt s.order + 40 := by
  have j0 := headS_len s
  have j1 := joinT_len (f := []) (s := [44, 32]) (by simp) (by simp) ((s.order.map prT).take e)
  have j2 := jl_take (s.order.map prT) e
  have j3 := jl_prs s.order
  simp only [orT, List.length_append]
  omega
theorem ordS_len (s : Sch) : (ordS s).length ≤ prsWt s.order + 10 := by
  have j1 := joinT_len (f := []) (s := [44, 32]) (by simp) (by simp) (s.order.map prT)
  have j3 := jl_prs s.order
  simp only [ordS, List.length_append, List.length_cons, List.length_nil]
  omega
theorem upto_len {s : Sch} (hft : ∀ x ∈ s.types, fineT x.2) (e : Nat) : (upto s e).length ≤ wdsWt s.levels + prsWt s.order + nmsWt s.types + 50 := by
  have j0 := headS_len s
  have j1 := ordS_len s
  have e1 := nms_len (l := s.types.take e) (fun x hx => hft x (List.mem_of_mem_take hx))
  have e2 := nmsWt_take s.types e
  simp only [upto, List.length_append]
  omega

abbrev f17S (n : Nat) (s : Sch) (l : List UInt8) (e : Nat) : St :=
  ⟨[(1, ⟨[], .loc 0 0⟩), (3, ⟨[], .v (.string (ba l))⟩), (n, ⟨[], .v (.int .i64 e)⟩)], [dSch s], []⟩

theorem sz_mk' {l : List UInt8} : (⟨⟨l⟩⟩ : ByteArray).size = l.length := rfl
theorem cm_len (e : Nat) : (if e = 0 then ([] : List UInt8) else [44, 32]).length ≤ 2 := by split <;> simp

theorem fmt17_spec (s : Sch) (hbig : s.wt ≤ 1099511627776) (hft : ∀ x ∈ s.types, fineT x.2) (hfr : fineT s.root) : EvP Tryz.prog 21 [.agg (dSch s)] (.v (.string (ba (fmtT s)))) := by
  have h1 := wdsWt_len s.levels
  have h2 := prsWt_len s.order
  have h3 := nmsWt_len s.types
  simp only [Sch.wt] at hbig
  have hroot := type17_spec s.root (by omega) hfr
  have hrl := tyT_len hfr
  have kl := lvT_len s
  have ko := orT_len s
  have kh := headS_len s
  have kd := ordS_len s
  have ku := upto_len hft
  have sl := @lvT_snoc s
  have so := @orT_snoc s
  have su := @upto_snoc s
  have c1 : headS s = lvT s s.levels.length ++ [125, 32, 111, 114, 100, 101, 114, 32, 123] := by
    simp only [headS, lvT]
    rw [List.take_of_length_le (by simp)]
  have c2 : headS s ++ ordS s = orT s s.order.length ++ [125] := by
    simp only [ordS, orT]
    rw [List.take_of_length_le (by simp), List.append_assoc]
  have c3 : upto s 0 = headS s ++ ordS s := by simp [upto]
  have c4 : fmtT s = upto s s.types.length ++ ([32, 114, 111, 111, 116, 32] ++ tyT s.root) := by simp [fmtT, upto]
  have c5 : orT s 0 = headS s := by simp [orT, joinT]
  have c6 : lvT s 0 = [108, 101, 118, 101, 108, 115, 32, 123] := by simp [lvT, joinT]
  generalize hs : s = s' at *
  obtain ⟨levels, order, types, ⟨h, ps⟩⟩ := s'
  clear hs
  simp only at h1 h2 h3 hbig hft hfr hroot hrl kl ko kh kd ku sl so su c1 c2 c4
  have d0 : (⟨#[108, 101, 118, 101, 108, 115, 32, 123]⟩ : ByteArray) = ba (lvT ⟨levels, order, types, .mk h ps⟩ 0) := by rw [c6]
  have d1 : ba (lvT ⟨levels, order, types, .mk h ps⟩ levels.length) ++ ⟨#[125, 32, 111, 114, 100, 101, 114, 32, 123]⟩ = ba (orT ⟨levels, order, types, .mk h ps⟩ 0) := by
    refine ba_ext ?_
    rw [c5, c1]
    simp [tx_app, tx_ba, tx_mk]
  have d2 : ba (orT ⟨levels, order, types, .mk h ps⟩ order.length) ++ ⟨#[125]⟩ = ba (upto ⟨levels, order, types, .mk h ps⟩ 0) := by
    refine ba_ext ?_
    rw [c3, c2]
    simp [tx_app, tx_ba, tx_mk]
  refine ev_go (P := Tryz.prog) tt tt_ok 5000 87 [.tmp 2] Tryz.func21 rfl Tryz.ntmps21 rfl (Nat.le_of_ble_eq_true rfl) (fun E9 w9 hn9 hm9 => ?_)
  refine loop_i (fun j st => ∃ e : Nat, st = f17S 4 ⟨levels, order, types, .mk h ps⟩ (lvT ⟨levels, order, types, .mk h ps⟩ e) e ∧ e ≤ levels.length ∧ j = levels.length - e) levels.length
    (f17S 4 ⟨levels, order, types, .mk h ps⟩ (lvT ⟨levels, order, types, .mk h ps⟩ 0) 0) (weak_mk ⟨_, rfl⟩ (by repeat' (first | exact rfl | exact we_rfl rfl | refine ⟨_, _, rfl, ?_, ?_⟩)) rfl rfl rfl (by repeat' (first | exact trivial | exact we_rfl rfl | exact we_str d0 | refine ⟨⟨_, rfl, ?_⟩, ?_⟩))) ⟨0, rfl, by omega, by omega⟩ ?_
  rintro j st ⟨e, rfl, he, rfl⟩
  have kle := kl e
  refine br (fun hL => ?_) (fun hL => ?_)
  · have hlt : e < levels.length := by have := hL; simp [dWds_len] at this; exact this
    obtain ⟨w, hw⟩ : ∃ w, levels[e]? = some w := ⟨_, List.getElem?_eq_getElem hlt⟩
    have hws := wdsWt_mem (List.mem_of_getElem? hw)
    have e1 : ba (tx (ba (lvT ⟨levels, order, types, .mk h ps⟩ e)) ++ (if e = 0 then [] else [44, 32])) ++ w.s = ba (lvT ⟨levels, order, types, .mk h ps⟩ (e + 1)) := by
      refine ba_ext ?_
      rw [sl hw]
      simp only [tx_app, tx_ba]
    have hc := cm_len e
    refine drawG_i (fun _ => false) mo (by decide +kernel) ?_
    refine callD_p (enters_of Tryz.func69 (by decide +kernel) rfl) (comma17_spec (ba (lvT ⟨levels, order, types, .mk h ps⟩ e)) e (by rw [sz_ba]; omega)) (by repeat' (first | exact rfl | exact trivial | exact Or.inr (Or.inl ⟨_, rfl⟩) | exact Or.inr ⟨_, rfl⟩ | exact Or.inl ⟨rfl, rfl⟩ | exact Or.inl rfl | refine Or.inr ⟨_, _, rfl, Nat.zero_le _, rfl, ?_⟩ | refine ⟨_, _, rfl, ?_, ?_⟩ | refine ⟨_, rfl, ?_⟩ | refine Or.inr (Or.inr (Or.inr ⟨_, _, rfl, ?_⟩)) | exact Or.inl rfl | refine Or.inr ?_)) rfl ?_
    refine ⟨dWd w, ⟨by omega, dWds_get hw⟩, ?_⟩
    refine ⟨by first | omega | (simp only [ByteArray.size_append, sz_ba, sz_mk', List.length_append, List.length_cons, List.length_nil, tx_len]; omega), ?_⟩
    refine ⟨f17S 4 ⟨levels, order, types, .mk h ps⟩ (lvT ⟨levels, order, types, .mk h ps⟩ (e + 1)) (e + 1), (weak_mk ⟨_, rfl⟩ (by repeat' (first | exact rfl | exact we_rfl rfl | refine ⟨_, _, rfl, ?_, ?_⟩)) rfl rfl rfl (by repeat' (first | exact trivial | exact we_rfl rfl | exact we_int (nxt hlt (by omega)) | exact we_str e1 | refine ⟨⟨_, rfl, ?_⟩, ?_⟩))), levels.length - (e + 1), by omega, e + 1, rfl, by omega, rfl⟩
  have hge : e = levels.length := by have := hL; simp [dWds_len] at this; omega
  subst hge
  clear hL he
  refine ⟨by first | omega | (simp only [ByteArray.size_append, sz_ba, sz_mk', List.length_append, List.length_cons, List.length_nil, tx_len]; omega), ?_⟩
  refine loop_i (fun j st => ∃ e : Nat, st = f17S 5 ⟨levels, order, types, .mk h ps⟩ (orT ⟨levels, order, types, .mk h ps⟩ e) e ∧ e ≤ order.length ∧ j = order.length - e) order.length
    (f17S 5 ⟨levels, order, types, .mk h ps⟩ (orT ⟨levels, order, types, .mk h ps⟩ 0) 0) (weak_mk ⟨_, rfl⟩ (by repeat' (first | exact rfl | exact we_rfl rfl | refine ⟨_, _, rfl, ?_, ?_⟩)) rfl rfl rfl (by repeat' (first | exact trivial | exact we_rfl rfl | exact we_str d1 | refine ⟨⟨_, rfl, ?_⟩, ?_⟩))) ⟨0, rfl, by omega, by omega⟩ ?_
  rintro j st ⟨e, rfl, he, rfl⟩
  have koe := ko e
  refine br (fun hL => ?_) (fun hL => ?_)
  · have hlt : e < order.length := by have := hL; simp [dPrs_len] at this; exact this
    obtain ⟨w, hw⟩ : ∃ w, order[e]? = some w := ⟨_, List.getElem?_eq_getElem hlt⟩
    have hws := prsWt_mem (List.mem_of_getElem? hw)
    simp only [Wd.wt] at hws
    have e1 : ba (tx (ba (orT ⟨levels, order, types, .mk h ps⟩ e)) ++ (if e = 0 then [] else [44, 32])) ++ w.1.s ++ ⟨#[32, 60, 32]⟩ ++ w.2.s = ba (orT ⟨levels, order, types, .mk h ps⟩ (e + 1)) := by
      refine ba_ext ?_
      rw [so hw]
      simp only [tx_app, tx_ba, prT, tx_mk, List.append_assoc]
    have hc := cm_len e
    refine drawG_i (fun _ => false) mo (by decide +kernel) ?_
    refine callD_p (enters_of Tryz.func69 (by decide +kernel) rfl) (comma17_spec (ba (orT ⟨levels, order, types, .mk h ps⟩ e)) e (by rw [sz_ba]; omega)) (by repeat' (first | exact rfl | exact trivial | exact Or.inr (Or.inl ⟨_, rfl⟩) | exact Or.inr ⟨_, rfl⟩ | exact Or.inl ⟨rfl, rfl⟩ | exact Or.inl rfl | refine Or.inr ⟨_, _, rfl, Nat.zero_le _, rfl, ?_⟩ | refine ⟨_, _, rfl, ?_, ?_⟩ | refine ⟨_, rfl, ?_⟩ | refine Or.inr (Or.inr (Or.inr ⟨_, _, rfl, ?_⟩)) | exact Or.inl rfl | refine Or.inr ?_)) rfl ?_
    refine ⟨_, ⟨by omega, dPrs_get hw⟩, ?_⟩
    refine ⟨by first | omega | (simp only [ByteArray.size_append, sz_ba, sz_mk', List.length_append, List.length_cons, List.length_nil, tx_len]; omega), ?_⟩
    refine ⟨by first | omega | (simp only [ByteArray.size_append, sz_ba, sz_mk', List.length_append, List.length_cons, List.length_nil, tx_len]; omega), ?_⟩
    refine ⟨_, ⟨by omega, dPrs_get hw⟩, ?_⟩
    refine ⟨by first | omega | (simp only [ByteArray.size_append, sz_ba, sz_mk', List.length_append, List.length_cons, List.length_nil, tx_len]; omega), ?_⟩
    refine ⟨f17S 5 ⟨levels, order, types, .mk h ps⟩ (orT ⟨levels, order, types, .mk h ps⟩ (e + 1)) (e + 1), (weak_mk ⟨_, rfl⟩ (by repeat' (first | exact rfl | exact we_rfl rfl | refine ⟨_, _, rfl, ?_, ?_⟩)) rfl rfl rfl (by repeat' (first | exact trivial | exact we_rfl rfl | exact we_int (nxt hlt (by omega)) | exact we_str e1 | refine ⟨⟨_, rfl, ?_⟩, ?_⟩))), order.length - (e + 1), by omega, e + 1, rfl, by omega, rfl⟩
  have hge : e = order.length := by have := hL; simp [dPrs_len] at this; omega
  subst hge
  clear hL he
  refine ⟨by first | omega | (simp only [ByteArray.size_append, sz_ba, sz_mk', List.length_append, List.length_cons, List.length_nil, tx_len]; omega), ?_⟩
  refine loop_i (fun j st => ∃ e : Nat, st = f17S 6 ⟨levels, order, types, .mk h ps⟩ (upto ⟨levels, order, types, .mk h ps⟩ e) e ∧ e ≤ types.length ∧ j = types.length - e) types.length
    (f17S 6 ⟨levels, order, types, .mk h ps⟩ (upto ⟨levels, order, types, .mk h ps⟩ 0) 0) (weak_mk ⟨_, rfl⟩ (by repeat' (first | exact rfl | exact we_rfl rfl | refine ⟨_, _, rfl, ?_, ?_⟩)) rfl rfl rfl (by repeat' (first | exact trivial | exact we_rfl rfl | exact we_str d2 | refine ⟨⟨_, rfl, ?_⟩, ?_⟩))) ⟨0, rfl, by omega, by omega⟩ ?_
  rintro j st ⟨e, rfl, he, rfl⟩
  have kue := ku e
  refine br (fun hL => ?_) (fun hL => ?_)
  · have hlt : e < types.length := by have := hL; simp [dNms_len] at this; exact this
    obtain ⟨w, hw⟩ : ∃ w, types[e]? = some w := ⟨_, List.getElem?_eq_getElem hlt⟩
    have hws := nmsWt_mem (List.mem_of_getElem? hw)
    have hwf := hft w (List.mem_of_getElem? hw)
    have htl := tyT_len hwf
    simp only [Wd.wt] at hws
    have htw := type17_spec w.2 (by omega) hwf
    have e1 : ba (upto ⟨levels, order, types, .mk h ps⟩ e) ++ ⟨#[32, 116, 121, 112, 101, 32]⟩ ++ w.1.s ++ ⟨#[32, 61, 32]⟩ ++ ba (tyT w.2) = ba (upto ⟨levels, order, types, .mk h ps⟩ (e + 1)) := by
      refine ba_ext ?_
      rw [su hw]
      simp only [tx_app, tx_ba, nmT, tx_mk, List.append_assoc]
    obtain ⟨w, u, us⟩ := w
    simp only at hws htl htw e1
    refine drawG_i (fun _ => false) mo (by decide +kernel) ?_
    refine ⟨by first | omega | (simp only [ByteArray.size_append, sz_ba, sz_mk', List.length_append, List.length_cons, List.length_nil, tx_len]; omega), ?_⟩
    refine ⟨_, ⟨by omega, dNms_get hw⟩, ?_⟩
    refine ⟨by first | omega | (simp only [ByteArray.size_append, sz_ba, sz_mk', List.length_append, List.length_cons, List.length_nil, tx_len]; omega), ?_⟩
    refine ⟨by first | omega | (simp only [ByteArray.size_append, sz_ba, sz_mk', List.length_append, List.length_cons, List.length_nil, tx_len]; omega), ?_⟩
    refine ⟨_, ⟨by omega, dNms_get hw⟩, ?_⟩
    refine callD_p (enters_of Tryz.func17 (by decide +kernel) rfl) (htw) (by repeat' (first | exact rfl | exact trivial | exact Or.inr (Or.inl ⟨_, rfl⟩) | exact Or.inr ⟨_, rfl⟩ | exact Or.inl ⟨rfl, rfl⟩ | exact Or.inl rfl | refine Or.inr ⟨_, _, rfl, Nat.zero_le _, rfl, ?_⟩ | refine ⟨_, _, rfl, ?_, ?_⟩ | refine ⟨_, rfl, ?_⟩ | refine Or.inr (Or.inr (Or.inr ⟨_, _, rfl, ?_⟩)) | exact Or.inl rfl | refine Or.inr ?_)) rfl ?_
    refine ⟨by first | omega | (simp only [ByteArray.size_append, sz_ba, sz_mk', List.length_append, List.length_cons, List.length_nil, tx_len]; omega), ?_⟩
    refine ⟨f17S 6 ⟨levels, order, types, .mk h ps⟩ (upto ⟨levels, order, types, .mk h ps⟩ (e + 1)) (e + 1), (weak_mk ⟨_, rfl⟩ (by repeat' (first | exact rfl | exact we_rfl rfl | refine ⟨_, _, rfl, ?_, ?_⟩)) rfl rfl rfl (by repeat' (first | exact trivial | exact we_rfl rfl | exact we_int (nxt hlt (by omega)) | exact we_str e1 | refine ⟨⟨_, rfl, ?_⟩, ?_⟩))), types.length - (e + 1), by omega, e + 1, rfl, by omega, rfl⟩
  have hge : e = types.length := by have := hL; simp [dNms_len] at this; omega
  subst hge
  clear hL he
  refine ⟨by first | omega | (simp only [ByteArray.size_append, sz_ba, sz_mk', List.length_append, List.length_cons, List.length_nil, tx_len]; omega), ?_⟩
  refine call_p (enters_of Tryz.func17 (by decide +kernel) rfl) (hroot) (by repeat' (first | exact rfl | exact trivial | exact Or.inr (Or.inl ⟨_, rfl⟩) | exact Or.inr ⟨_, rfl⟩ | exact Or.inl ⟨rfl, rfl⟩ | exact Or.inl rfl | refine Or.inr ⟨_, _, rfl, Nat.zero_le _, rfl, ?_⟩ | refine ⟨_, _, rfl, ?_, ?_⟩ | refine ⟨_, rfl, ?_⟩ | refine Or.inr (Or.inr (Or.inr ⟨_, _, rfl, ?_⟩)) | exact Or.inl rfl | refine Or.inr ?_)) rfl ?_
  refine ⟨by first | omega | (simp only [ByteArray.size_append, sz_ba, sz_mk', List.length_append, List.length_cons, List.length_nil, tx_len]; omega), ?_⟩
  refine (congrArg (fun s => DV.v (.string s)) (ba_ext ?_) : _ = _)
  rw [c4]
  simp [tx_app, tx_ba, tx_mk]
end Go.Proofs.YtmphiikdhifhjaaGreat
set_option maxRecDepth 100000
namespace Go.Proofs.YtmphiikdhifhjaaGreat
open Go Go.RowKit Dv Tryz

/-! ### Great: some bool -/
abbrev greatSt (s : Sch) (n d k q : Int) (e : Nat) : St :=
  ⟨[(1, ⟨[], .loc 0 0⟩), (3, ⟨[], .v (.int .i64 n)⟩), (4, ⟨[], .v (.int .i64 d)⟩), (5, ⟨[], .v (.int .i64 e)⟩)], [dSch s], []⟩

theorem great17_spec (s : Sch) (hbig : s.wt ≤ 1099511627776) : Ev Tryz.prog 19 [.agg (dSch s)] [] [] (fun d _ _ => ∃ b : Bool, d = .v (.bool b)) := by
  have h1 := wdsWt_len s.levels
  have h2 := prsWt_len s.order
  have h3 := nmsWt_len s.types
  simp only [Sch.wt] at hbig
  have hroot := size15_spec s.root.wt s.root (Nat.le_refl _) (by omega)
  obtain ⟨levels, order, types, ⟨h, ps⟩⟩ := s
  simp only at h1 h2 h3 hbig hroot
  refine ev_go (P := Tryz.prog) tt tt_ok 5000 60 [.tmp 2] Tryz.func19 rfl Tryz.ntmps19 rfl (Nat.le_of_ble_eq_true rfl) (fun E9 w9 hn9 hm9 => ?_)
  refine br (fun _ => ?_) (fun _ => ?_)
  · exact ⟨true, rfl⟩
  refine call_p (enters_of Tryz.func14 (by decide +kernel) rfl) (hroot) (by repeat' (first | exact rfl | exact trivial | exact Or.inr (Or.inl ⟨_, rfl⟩) | exact Or.inr ⟨_, rfl⟩ | exact Or.inl ⟨rfl, rfl⟩ | exact Or.inl rfl | refine Or.inr ⟨_, _, rfl, Nat.zero_le _, rfl, ?_⟩ | refine ⟨_, _, rfl, ?_, ?_⟩ | refine ⟨_, rfl, ?_⟩ | refine Or.inr (Or.inr (Or.inr ⟨_, _, rfl, ?_⟩)) | exact Or.inl rfl | refine Or.inr ?_)) rfl ?_
  refine loop_i (fun j st => ∃ (e : Nat) (n d : Int), st = greatSt ⟨levels, order, types, .mk h ps⟩ n d 0 0 e ∧ e ≤ types.length ∧ j = types.length - e) types.length (greatSt ⟨levels, order, types, .mk h ps⟩ (Ty.mk h ps).cnt (Ty.mk h ps).deep 0 0 0) (weak_mk ⟨_, rfl⟩ (by repeat' (first | exact rfl | exact we_rfl rfl | refine ⟨_, _, rfl, ?_, ?_⟩)) rfl rfl rfl (by repeat' (first | exact trivial | exact we_rfl rfl | refine ⟨⟨_, rfl, ?_⟩, ?_⟩))) ⟨0, _, _, rfl, by omega, by omega⟩ ?_
  rintro j st ⟨e, n, d, rfl, he, rfl⟩
  refine br (fun hL => ?_) (fun hL => ?_)
  · have hlt : e < types.length := by have := hL; simp [dNms_len] at this; exact this
    obtain ⟨w, hw⟩ : ∃ w, types[e]? = some w := ⟨_, List.getElem?_eq_getElem hlt⟩
    have hwt := nmsWt_mem (List.mem_of_getElem? hw)
    have hs := size15_spec w.2.wt w.2 (Nat.le_refl _) (by omega)
    obtain ⟨w, u, us⟩ := w
    simp only at hs
    refine ⟨_, ⟨by omega, dNms_get hw⟩, ?_⟩
    refine call_p (enters_of Tryz.func14 (by decide +kernel) rfl) (hs) (by repeat' (first | exact rfl | exact trivial | exact Or.inr (Or.inl ⟨_, rfl⟩) | exact Or.inr ⟨_, rfl⟩ | exact Or.inl ⟨rfl, rfl⟩ | exact Or.inl rfl | refine Or.inr ⟨_, _, rfl, Nat.zero_le _, rfl, ?_⟩ | refine ⟨_, _, rfl, ?_, ?_⟩ | refine ⟨_, rfl, ?_⟩ | refine Or.inr (Or.inr (Or.inr ⟨_, _, rfl, ?_⟩)) | exact Or.inl rfl | refine Or.inr ?_)) rfl ?_
    refine br (fun _ => ?_) (fun _ => ?_)
    · exact ⟨greatSt ⟨levels, order, types, .mk h ps⟩ _ _ 0 0 (e + 1), (weak_mk ⟨_, rfl⟩ (by repeat' (first | exact rfl | exact we_rfl rfl | refine ⟨_, _, rfl, ?_, ?_⟩)) rfl rfl rfl (by repeat' (first | exact trivial | exact we_rfl rfl | exact we_int (nxt hlt (by omega)) | refine ⟨⟨_, rfl, ?_⟩, ?_⟩))), types.length - (e + 1), by omega, e + 1, _, _, rfl, by omega, rfl⟩
    · exact ⟨greatSt ⟨levels, order, types, .mk h ps⟩ _ _ 0 0 (e + 1), (weak_mk ⟨_, rfl⟩ (by repeat' (first | exact rfl | exact we_rfl rfl | refine ⟨_, _, rfl, ?_, ?_⟩)) rfl rfl rfl (by repeat' (first | exact trivial | exact we_rfl rfl | exact we_int (nxt hlt (by omega)) | refine ⟨⟨_, rfl, ?_⟩, ?_⟩))), types.length - (e + 1), by omega, e + 1, _, _, rfl, by omega, rfl⟩
  exact ⟨_, rfl⟩

/-! ### The same, but for places -/
def samePrs : List (Wd × Wd) → List (Wd × Wd) → Bool
  | [], [] => true
  | x :: r, y :: s => (decide (x.1.s = y.1.s) && decide (x.2.s = y.2.s)) && samePrs r s
  | _, _ => false
def sameNms : List (Wd × Ty) → List (Wd × Ty) → Bool
  | [], [] => true
  | x :: r, y :: s => (decide (x.1.s = y.1.s) && sameTy x.2 y.2) && sameNms r s
  | _, _ => false
def sameS (a b : Sch) : Bool := sameWds a.levels b.levels && samePrs a.order b.order && sameTy a.root b.root && sameNms a.types b.types

theorem samePrs_len : ∀ {a b : List (Wd × Wd)}, a.length ≠ b.length → samePrs a b = false
  | [], [], h => (h rfl).elim
  | [], _ :: _, _ => rfl
  | _ :: _, [], _ => rfl
  | x :: r, y :: s, h => by
    simp only [samePrs]
    rw [samePrs_len (a := r) (b := s) (by simpa using h), Bool.and_false]
theorem sameNms_len : ∀ {a b : List (Wd × Ty)}, a.length ≠ b.length → sameNms a b = false
  | [], [], h => (h rfl).elim
  | [], _ :: _, _ => rfl
  | _ :: _, [], _ => rfl
  | x :: r, y :: s, h => by
    simp only [sameNms]
    rw [sameNms_len (a := r) (b := s) (by simpa using h), Bool.and_false]

abbrev same17St1 (a b : Sch) (e : Nat) : St :=
  ⟨[(2, ⟨[], .loc 0 0⟩), (3, ⟨[], .loc 1 0⟩), (5, ⟨[], .v (.int .i64 e)⟩)], [dSch a, dSch b], []⟩
abbrev same17St2 (a b : Sch) (e : Nat) : St :=
  ⟨[(2, ⟨[], .loc 0 0⟩), (3, ⟨[], .loc 1 0⟩), (6, ⟨[], .v (.int .i64 e)⟩)], [dSch a, dSch b], []⟩
abbrev same17St3 (a b : Sch) (e : Nat) : St :=
  ⟨[(2, ⟨[], .loc 0 0⟩), (3, ⟨[], .loc 1 0⟩), (7, ⟨[], .v (.int .i64 e)⟩)], [dSch a, dSch b], []⟩

end Go.Proofs.YtmphiikdhifhjaaGreat
set_option maxRecDepth 100000
namespace Go.Proofs.YtmphiikdhifhjaaGreat
open Go Go.RowKit Dv Tryz

/-- The chapter's example: opt(bool). -/
def liveTy : Ty := .mk ⟨6, 0, 0, 0, 0, [], ⟨emptyB, 0⟩⟩ (.cons zeroPh (.mk ⟨1, 0, 0, 0, 0, [], ⟨emptyB, 0⟩⟩ .nil) .nil)

theorem live_fine : (wrong liveTy 1 0).1.1 = 0 := by
  simp [liveTy, wrong, wrongOne, ownB, sameTy, sameHd, samePts, sameWds, mask, maskHd, plainP, zeroPh]
theorem live_text : typeT liveTy = ⟨#[111, 112, 116, 40, 98, 111, 111, 108, 41]⟩ := by
  unfold typeT
  rw [if_pos live_fine]
  decide +kernel

theorem lives17_spec : EvP Tryz.prog 15 [] (.v (.bool true)) := by
  have hu := utype_spec liveTy (by decide) (by simp [liveTy, rngT, rngP, I64, zeroPh])
  refine ev_go (P := Tryz.prog) tt tt_ok 5000 7 [.tmp 0] Tryz.func15 rfl Tryz.ntmps15 rfl (Nat.le_of_ble_eq_true rfl) (fun E9 w9 hn9 hm9 => ?_)
  refine call_p (enters_of Tryz.func18 (by decide +kernel) rfl) (hu) (by repeat' (first | exact rfl | exact trivial | exact Or.inr (Or.inl ⟨_, rfl⟩) | exact Or.inr ⟨_, rfl⟩ | exact Or.inl ⟨rfl, rfl⟩ | exact Or.inl rfl | refine Or.inr ⟨_, _, rfl, Nat.zero_le _, rfl, ?_⟩ | refine ⟨_, _, rfl, ?_, ?_⟩ | refine ⟨_, rfl, ?_⟩ | refine Or.inr (Or.inr (Or.inr ⟨_, _, rfl, ?_⟩)) | exact Or.inl rfl | refine Or.inr ?_)) rfl ?_
  refine (congrArg (fun b => DV.v (.bool b)) ?_ : _ = _)
  rw [live_text]
  decide +kernel

/-- The law's text of a type. -/
def wantT (t : Ty) : ByteArray := if (wrong t 1 0).1.1 = 0 then ba (tyT t) else ⟨#[]⟩

theorem types17_spec (t : Ty) (hbig : t.wt ≤ 1099511627776) (hr : rngT t) : EvP Tryz.prog 3 [.agg (dTy t)] (.v (.bool true)) := by
  have hs := size15_spec t.wt t (Nat.le_refl _) hbig
  have hw := wrong15_spec t 1 0 hbig (by omega) (by omega) (by omega) (by omega)
  have hu := utype_spec t hbig hr
  have ht := fun h => type17_spec t hbig (wrong_fine t 1 0 hr h)
  have htt : typeT t = if (wrong t 1 0).1.1 = 0 then ba (tyT t) else ⟨#[]⟩ := rfl
  generalize wrong t 1 0 = w at hw ht htt
  obtain ⟨⟨fe, fa⟩, many⟩ := w
  simp only at ht htt
  obtain ⟨h, ps⟩ := t
  refine ev_go (P := Tryz.prog) tt tt_ok 5000 33 [.tmp 2] Tryz.func3 rfl Tryz.ntmps3 rfl (Nat.le_of_ble_eq_true rfl) (fun E9 w9 hn9 hm9 => ?_)
  refine call_p (enters_of Tryz.func14 (by decide +kernel) rfl) (hs) (by repeat' (first | exact rfl | exact trivial | exact Or.inr (Or.inl ⟨_, rfl⟩) | exact Or.inr ⟨_, rfl⟩ | exact Or.inl ⟨rfl, rfl⟩ | exact Or.inl rfl | refine Or.inr ⟨_, _, rfl, Nat.zero_le _, rfl, ?_⟩ | refine ⟨_, _, rfl, ?_, ?_⟩ | refine ⟨_, rfl, ?_⟩ | refine Or.inr (Or.inr (Or.inr ⟨_, _, rfl, ?_⟩)) | exact Or.inl rfl | refine Or.inr ?_)) rfl ?_
  refine br (fun _ => ?_) (fun _ => ?_)
  · refine call_p (enters_of Tryz.func15 (by decide +kernel) rfl) (lives17_spec) (by repeat' (first | exact rfl | exact trivial | exact Or.inr (Or.inl ⟨_, rfl⟩) | exact Or.inr ⟨_, rfl⟩ | exact Or.inl ⟨rfl, rfl⟩ | exact Or.inl rfl | refine Or.inr ⟨_, _, rfl, Nat.zero_le _, rfl, ?_⟩ | refine ⟨_, _, rfl, ?_, ?_⟩ | refine ⟨_, rfl, ?_⟩ | refine Or.inr (Or.inr (Or.inr ⟨_, _, rfl, ?_⟩)) | exact Or.inl rfl | refine Or.inr ?_)) rfl ?_
    exact (rfl : _ = _)
  refine call_p (enters_of Tryz.func16 (by decide +kernel) rfl) (hw) (by repeat' (first | exact rfl | exact trivial | exact Or.inr (Or.inl ⟨_, rfl⟩) | exact Or.inr ⟨_, rfl⟩ | exact Or.inl ⟨rfl, rfl⟩ | exact Or.inl rfl | refine Or.inr ⟨_, _, rfl, Nat.zero_le _, rfl, ?_⟩ | refine ⟨_, _, rfl, ?_, ?_⟩ | refine ⟨_, rfl, ?_⟩ | refine Or.inr (Or.inr (Or.inr ⟨_, _, rfl, ?_⟩)) | exact Or.inl rfl | refine Or.inr ?_)) rfl ?_
  refine br (fun c => ?_) (fun c => ?_)
  · have c : fe = 0 := by simpa using c
    refine call_p (enters_of Tryz.func17 (by decide +kernel) rfl) (ht c) (by repeat' (first | exact rfl | exact trivial | exact Or.inr (Or.inl ⟨_, rfl⟩) | exact Or.inr ⟨_, rfl⟩ | exact Or.inl ⟨rfl, rfl⟩ | exact Or.inl rfl | refine Or.inr ⟨_, _, rfl, Nat.zero_le _, rfl, ?_⟩ | refine ⟨_, _, rfl, ?_, ?_⟩ | refine ⟨_, rfl, ?_⟩ | refine Or.inr (Or.inr (Or.inr ⟨_, _, rfl, ?_⟩)) | exact Or.inl rfl | refine Or.inr ?_)) rfl ?_
    rw [if_pos c] at htt
    rw [htt] at hu
    refine call_p (enters_of Tryz.func18 (by decide +kernel) rfl) (hu) (by repeat' (first | exact rfl | exact trivial | exact Or.inr (Or.inl ⟨_, rfl⟩) | exact Or.inr ⟨_, rfl⟩ | exact Or.inl ⟨rfl, rfl⟩ | exact Or.inl rfl | refine Or.inr ⟨_, _, rfl, Nat.zero_le _, rfl, ?_⟩ | refine ⟨_, _, rfl, ?_, ?_⟩ | refine ⟨_, rfl, ?_⟩ | refine Or.inr (Or.inr (Or.inr ⟨_, _, rfl, ?_⟩)) | exact Or.inl rfl | refine Or.inr ?_)) rfl ?_
    refine br (fun _ => ?_) (fun hc => by simp at hc)
    refine call_p (enters_of Tryz.func15 (by decide +kernel) rfl) (lives17_spec) (by repeat' (first | exact rfl | exact trivial | exact Or.inr (Or.inl ⟨_, rfl⟩) | exact Or.inr ⟨_, rfl⟩ | exact Or.inl ⟨rfl, rfl⟩ | exact Or.inl rfl | refine Or.inr ⟨_, _, rfl, Nat.zero_le _, rfl, ?_⟩ | refine ⟨_, _, rfl, ?_, ?_⟩ | refine ⟨_, rfl, ?_⟩ | refine Or.inr (Or.inr (Or.inr ⟨_, _, rfl, ?_⟩)) | exact Or.inl rfl | refine Or.inr ?_)) rfl ?_
    refine (congrArg (fun b => DV.v (.bool b)) ?_ : _ = _)
    simp [pickB]
  · have c : ¬ fe = 0 := by simpa using c
    rw [if_neg c] at htt
    rw [htt] at hu
    refine call_p (enters_of Tryz.func18 (by decide +kernel) rfl) (hu) (by repeat' (first | exact rfl | exact trivial | exact Or.inr (Or.inl ⟨_, rfl⟩) | exact Or.inr ⟨_, rfl⟩ | exact Or.inl ⟨rfl, rfl⟩ | exact Or.inl rfl | refine Or.inr ⟨_, _, rfl, Nat.zero_le _, rfl, ?_⟩ | refine ⟨_, _, rfl, ?_, ?_⟩ | refine ⟨_, rfl, ?_⟩ | refine Or.inr (Or.inr (Or.inr ⟨_, _, rfl, ?_⟩)) | exact Or.inl rfl | refine Or.inr ?_)) rfl ?_
    refine call_p (enters_of Tryz.func15 (by decide +kernel) rfl) (lives17_spec) (by repeat' (first | exact rfl | exact trivial | exact Or.inr (Or.inl ⟨_, rfl⟩) | exact Or.inr ⟨_, rfl⟩ | exact Or.inl ⟨rfl, rfl⟩ | exact Or.inl rfl | refine Or.inr ⟨_, _, rfl, Nat.zero_le _, rfl, ?_⟩ | refine ⟨_, _, rfl, ?_, ?_⟩ | refine ⟨_, rfl, ?_⟩ | refine Or.inr (Or.inr (Or.inr ⟨_, _, rfl, ?_⟩)) | exact Or.inl rfl | refine Or.inr ?_)) rfl ?_
    refine (congrArg (fun b => DV.v (.bool b)) ?_ : _ = _)
    simp [pickB]
end Go.Proofs.YtmphiikdhifhjaaGreat
set_option maxRecDepth 100000
namespace Go.Proofs.YtmphiikdhifhjaaGreat
open Go Go.RowKit Dv Tryz

theorem formats17_spec (s : Sch) (hbig : s.wt ≤ 1099511627776) (hr : rngS s) : EvP Tryz.prog 4 [.agg (dSch s)] (.v (.bool true)) := by
  have ga := great17_spec s hbig
  have r1 := right17_spec s hbig
  have r2 := uright_spec s hbig
  have f1 := fun h => have hp := right_parts hr h; fmt17_spec s hbig hp.1 hp.2
  have f2 := ufmt_spec s hbig hr
  have e0 : fmtD s = if rightB s = true then ba (fmtT s) else ⟨#[]⟩ := rfl
  generalize fmtD s = D at f2 e0
  generalize rightB s = R at r1 r2 f1 e0
  generalize fmtT s = T at f1 e0
  obtain ⟨levels, order, types, ⟨h, ps⟩⟩ := s
  refine ev_go (P := Tryz.prog) tt tt_ok 5000 26 [.tmp 2] Tryz.func4 rfl Tryz.ntmps4 rfl (Nat.le_of_ble_eq_true rfl) (fun E9 w9 hn9 hm9 => ?_)
  refine call_e (enters_of Tryz.func19 (by decide +kernel) rfl) rfl ga (by repeat' (first | exact rfl | exact trivial | exact Or.inr (Or.inl ⟨_, rfl⟩) | exact Or.inr ⟨_, rfl⟩ | exact Or.inl ⟨rfl, rfl⟩ | exact Or.inl rfl | refine Or.inr ⟨_, _, rfl, Nat.zero_le _, rfl, ?_⟩ | refine ⟨_, _, rfl, ?_, ?_⟩ | refine ⟨_, rfl, ?_⟩ | refine Or.inr (Or.inr (Or.inr ⟨_, _, rfl, ?_⟩)) | exact Or.inl rfl | refine Or.inr ?_)) (fun r hr => ?_)
  obtain ⟨g, rfl⟩ := hr
  cases g with
  | true =>
    refine call_p (enters_of Tryz.func15 (by decide +kernel) rfl) (lives17_spec) (by repeat' (first | exact rfl | exact trivial | exact Or.inr (Or.inl ⟨_, rfl⟩) | exact Or.inr ⟨_, rfl⟩ | exact Or.inl ⟨rfl, rfl⟩ | exact Or.inl rfl | refine Or.inr ⟨_, _, rfl, Nat.zero_le _, rfl, ?_⟩ | refine ⟨_, _, rfl, ?_, ?_⟩ | refine ⟨_, rfl, ?_⟩ | refine Or.inr (Or.inr (Or.inr ⟨_, _, rfl, ?_⟩)) | exact Or.inl rfl | refine Or.inr ?_)) rfl ?_
    exact (rfl : _ = _)
  | false =>
  cases R with
  | true =>
    have e0 : D = ba T := e0
    subst e0
    refine call_p (enters_of Tryz.func20 (by decide +kernel) rfl) (r1) (by repeat' (first | exact rfl | exact trivial | exact Or.inr (Or.inl ⟨_, rfl⟩) | exact Or.inr ⟨_, rfl⟩ | exact Or.inl ⟨rfl, rfl⟩ | exact Or.inl rfl | refine Or.inr ⟨_, _, rfl, Nat.zero_le _, rfl, ?_⟩ | refine ⟨_, _, rfl, ?_, ?_⟩ | refine ⟨_, rfl, ?_⟩ | refine Or.inr (Or.inr (Or.inr ⟨_, _, rfl, ?_⟩)) | exact Or.inl rfl | refine Or.inr ?_)) rfl ?_
    refine call_p (enters_of Tryz.func21 (by decide +kernel) rfl) (f1 rfl) (by repeat' (first | exact rfl | exact trivial | exact Or.inr (Or.inl ⟨_, rfl⟩) | exact Or.inr ⟨_, rfl⟩ | exact Or.inl ⟨rfl, rfl⟩ | exact Or.inl rfl | refine Or.inr ⟨_, _, rfl, Nat.zero_le _, rfl, ?_⟩ | refine ⟨_, _, rfl, ?_, ?_⟩ | refine ⟨_, rfl, ?_⟩ | refine Or.inr (Or.inr (Or.inr ⟨_, _, rfl, ?_⟩)) | exact Or.inl rfl | refine Or.inr ?_)) rfl ?_
    refine call_p (enters_of Tryz.func22 (by decide +kernel) rfl) (r2) (by repeat' (first | exact rfl | exact trivial | exact Or.inr (Or.inl ⟨_, rfl⟩) | exact Or.inr ⟨_, rfl⟩ | exact Or.inl ⟨rfl, rfl⟩ | exact Or.inl rfl | refine Or.inr ⟨_, _, rfl, Nat.zero_le _, rfl, ?_⟩ | refine ⟨_, _, rfl, ?_, ?_⟩ | refine ⟨_, rfl, ?_⟩ | refine Or.inr (Or.inr (Or.inr ⟨_, _, rfl, ?_⟩)) | exact Or.inl rfl | refine Or.inr ?_)) rfl ?_
    refine call_p (enters_of Tryz.func23 (by decide +kernel) rfl) (f2) (by repeat' (first | exact rfl | exact trivial | exact Or.inr (Or.inl ⟨_, rfl⟩) | exact Or.inr ⟨_, rfl⟩ | exact Or.inl ⟨rfl, rfl⟩ | exact Or.inl rfl | refine Or.inr ⟨_, _, rfl, Nat.zero_le _, rfl, ?_⟩ | refine ⟨_, _, rfl, ?_, ?_⟩ | refine ⟨_, rfl, ?_⟩ | refine Or.inr (Or.inr (Or.inr ⟨_, _, rfl, ?_⟩)) | exact Or.inl rfl | refine Or.inr ?_)) rfl ?_
    refine br (fun _ => ?_) (fun hc => by simp [pickB] at hc)
    refine call_p (enters_of Tryz.func15 (by decide +kernel) rfl) (lives17_spec) (by repeat' (first | exact rfl | exact trivial | exact Or.inr (Or.inl ⟨_, rfl⟩) | exact Or.inr ⟨_, rfl⟩ | exact Or.inl ⟨rfl, rfl⟩ | exact Or.inl rfl | refine Or.inr ⟨_, _, rfl, Nat.zero_le _, rfl, ?_⟩ | refine ⟨_, _, rfl, ?_, ?_⟩ | refine ⟨_, rfl, ?_⟩ | refine Or.inr (Or.inr (Or.inr ⟨_, _, rfl, ?_⟩)) | exact Or.inl rfl | refine Or.inr ?_)) rfl ?_
    refine (congrArg (fun b => DV.v (.bool b)) ?_ : _ = _)
    simp [pickB]
  | false =>
    have e0 : D = ⟨#[]⟩ := e0
    subst e0
    refine call_p (enters_of Tryz.func20 (by decide +kernel) rfl) (r1) (by repeat' (first | exact rfl | exact trivial | exact Or.inr (Or.inl ⟨_, rfl⟩) | exact Or.inr ⟨_, rfl⟩ | exact Or.inl ⟨rfl, rfl⟩ | exact Or.inl rfl | refine Or.inr ⟨_, _, rfl, Nat.zero_le _, rfl, ?_⟩ | refine ⟨_, _, rfl, ?_, ?_⟩ | refine ⟨_, rfl, ?_⟩ | refine Or.inr (Or.inr (Or.inr ⟨_, _, rfl, ?_⟩)) | exact Or.inl rfl | refine Or.inr ?_)) rfl ?_
    refine call_p (enters_of Tryz.func22 (by decide +kernel) rfl) (r2) (by repeat' (first | exact rfl | exact trivial | exact Or.inr (Or.inl ⟨_, rfl⟩) | exact Or.inr ⟨_, rfl⟩ | exact Or.inl ⟨rfl, rfl⟩ | exact Or.inl rfl | refine Or.inr ⟨_, _, rfl, Nat.zero_le _, rfl, ?_⟩ | refine ⟨_, _, rfl, ?_, ?_⟩ | refine ⟨_, rfl, ?_⟩ | refine Or.inr (Or.inr (Or.inr ⟨_, _, rfl, ?_⟩)) | exact Or.inl rfl | refine Or.inr ?_)) rfl ?_
    refine call_p (enters_of Tryz.func23 (by decide +kernel) rfl) (f2) (by repeat' (first | exact rfl | exact trivial | exact Or.inr (Or.inl ⟨_, rfl⟩) | exact Or.inr ⟨_, rfl⟩ | exact Or.inl ⟨rfl, rfl⟩ | exact Or.inl rfl | refine Or.inr ⟨_, _, rfl, Nat.zero_le _, rfl, ?_⟩ | refine ⟨_, _, rfl, ?_, ?_⟩ | refine ⟨_, rfl, ?_⟩ | refine Or.inr (Or.inr (Or.inr ⟨_, _, rfl, ?_⟩)) | exact Or.inl rfl | refine Or.inr ?_)) rfl ?_
    refine call_p (enters_of Tryz.func15 (by decide +kernel) rfl) (lives17_spec) (by repeat' (first | exact rfl | exact trivial | exact Or.inr (Or.inl ⟨_, rfl⟩) | exact Or.inr ⟨_, rfl⟩ | exact Or.inl ⟨rfl, rfl⟩ | exact Or.inl rfl | refine Or.inr ⟨_, _, rfl, Nat.zero_le _, rfl, ?_⟩ | refine ⟨_, _, rfl, ?_, ?_⟩ | refine ⟨_, rfl, ?_⟩ | refine Or.inr (Or.inr (Or.inr ⟨_, _, rfl, ?_⟩)) | exact Or.inl rfl | refine Or.inr ?_)) rfl ?_
    refine (congrArg (fun b => DV.v (.bool b)) ?_ : _ = _)
    simp [pickB]
end Go.Proofs.YtmphiikdhifhjaaGreat
