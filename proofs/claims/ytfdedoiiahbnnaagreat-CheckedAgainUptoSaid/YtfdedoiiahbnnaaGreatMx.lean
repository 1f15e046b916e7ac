/- blindfoldlaw21.CheckedAgain returns true at every input that the statement speaks of. Condition: the given bound on what is read (the second form of the statement). -/
import Derived.Test.YtfdedoiiahbnnaaGreatNf8
namespace Go.Proofs.YtfdedoiiahbnnaaGreat.checkedAgain
open Go Go.RowKit Go.ChangeShapes Go.WideShapes Go.ChangeAt Dv
open Go.ChangeMaps (open_string)
set_option linter.unusedVariables false
set_option maxRecDepth 100000

theorem contract (H : Type) (enc : TypeId × Value → H) (W : World) (base : Nat) (args : Array Value) (ds gs : List (DataW H)) (before : List MemPlace)
    (hval : ∀ (j : Nat) t v, Tryz.f6.params[j]? = some t → args[j]? = some v → Value.okWide Tryz.prog W .any base t v)
    (hW : DataW.Whole enc Tryz.prog Tryz.f6.params.toList Rows.checkedAgainSpec.vars false W args.toList ds gs before) (hk : Rows.uptoSmall H (ds ++ gs) = true) :
    Calls Tryz.prog 6 args W fun e W' => ∃ v, e = .returned v ∧ Rows.checkedAgainSpec.post enc Tryz.prog Tryz.f6 false true false false W args v W' := by
  have hW' := hW
  obtain ⟨p, q, hA0, hV, rfl, hfz, hnd⟩ := hW
  have hA : DataW.TrodAll enc Tryz.prog W 0 (fun _ => true) true Tryz.f6.params.toList args.toList ds p := hA0
  have hts : ∀ t ∈ Tryz.f6.params.toList, Tryz.prog.readableRec t = true ∧ t < Tryz.prog.types.size := by
    rw [Tryz.params6]
    have h : ([38].all fun t => Tryz.prog.readableRec t && Nat.blt t Tryz.prog.types.size) = true := by kernel_rfl
    intro t ht
    have := List.all_eq_true.1 h t ht
    simp only [Bool.and_eq_true] at this
    exact ⟨this.1, Nat.le_of_ble_eq_true this.2⟩
  rw [Tryz.params6] at hA hval
  obtain ⟨v0, vs0, d0, ds0, p0, q0, hargs0, rfl, rfl, h0, r0⟩ := trodAll_cons hA
  obtain ⟨rfl, rfl, rfl⟩ := trodAll_nil r0
  obtain rfl : args = #[v0] := by cases args; simp_all
  obtain ⟨rfl, rfl⟩ := trodVars_none hV
  rw [List.append_nil] at hk
  have hb : Rows.uptoBulk d0 ≤ 1048576 := by have h := bulk_le hk; simp only [Rows.uptoBulkAll] at h; omega
  clear hk
  obtain ⟨n0, c0, hr0, ht0, hw0⟩ := arg_st bk_ok tySS_ok (by simp [tySS, tyS]) Tryz.underlying38 (hval 0 38 v0 rfl rfl) h0
  obtain ⟨t0, rfl, hrng0, hwt0⟩ := typ_sch ht0
  refine (calls_law (again21_law t0 (by omega) hrng0) (rvL_one hr0)).mono fun e W' ⟨he, hbl⟩ => ?_
  exact ⟨_, he, law_post laid_out (by kernel_rfl) Tryz.underlying4 rfl hts hW' rfl hbl⟩

theorem lifted (os : Os) (started : os.Started) (H : Type) (enc : TypeId × Value → H) (F : Stop.Interp) :
    ReturnsInHanded {} Tryz.checked os 6 .any ((Rows.OpenSpec.upto Rows.checkedAgainSpec).pre6 enc Tryz.prog Tryz.f6 Rows.checkedAgainUptoRow.domain false) (((Rows.OpenSpec.upto Rows.checkedAgainSpec).at F).post enc Tryz.prog Tryz.f6 false true false false) := by
  refine returnsInHanded_of_cond (C := Tryz.checked) (s := Rows.OpenSpec.upto Rows.checkedAgainSpec) (k := Rows.uptoSmall) rfl own_knob started (by kernel_rfl) Tryz.func6
    (OpenSpec.witness (enc := enc) (C := Tryz.checked) (s := Rows.OpenSpec.upto Rows.checkedAgainSpec) (k := Rows.uptoSmall) rfl false
      ⟨#[], #[.agg #[.slice none 0 0, .slice none 0 0, .slice none 0 0, .int .i64 0, .int .i64 0, .int .i64 0, .int .i64 0, .int .i64 0, .slice none 0 0, .slice none 0 0, .string .empty, .int .i64 0]], []⟩ 8 (by kernel_rfl) (by kernel_rfl) (by kernel_rfl)
      (x := ([.agg [.nil, .nil, .nil, .agg [.lit (.int .i64 0), .lit (.int .i64 0), .lit (.int .i64 0), .lit (.int .i64 0), .lit (.int .i64 0), .nil, .nil, .agg [.lit (.string []), .lit (.int .i64 0)]]]], [], [])) (by kernel_rfl) rfl (by kernel_rfl)) ?_
  intro W base args ds gs before hval hW _ hk _
  exact contract H enc W base args ds gs before hval hW hk

theorem c_place : (Rows.checkedAgainUptoRow.inPlace == PP.inPlace 6) = true := by kernel_rfl
theorem c_unf : (Rows.checkedAgainUptoRow.unfollowed == PP.unfollowed 6) = true := by kernel_rfl
theorem c_rec : (Rows.checkedAgainUptoRow.recurses == PP.recurses 6) = true := by kernel_rfl
theorem c_named : (Rows.checkedAgainUptoRow.named == PP.varsNamed 6) = true := by kernel_rfl
theorem joined : joinedFacts PP 6 Tryz.f6 (Rows.OpenSpec.upto Rows.checkedAgainSpec).bare Rows.checkedAgainUptoRow = true := by
  unfold joinedFacts
  with_reducible repeat' (refine and_ok ?_ ?_)
  · kernel_rfl
  · exact g_laid
  · exact g_maps
  · kernel_rfl
  · kernel_rfl
  · kernel_rfl
  · exact g_stops
  · kernel_rfl
  · exact g_knobs
  · exact c_place
  · exact c_unf
  · exact c_rec
  · exact c_named
  · kernel_rfl
  · kernel_rfl
  · kernel_rfl
  · kernel_rfl
  · kernel_rfl
  · kernel_rfl
  · kernel_rfl
  · kernel_rfl
  · kernel_rfl
  · exact g_keys
  · kernel_rfl
  · exact g_heard
  · exact g_enter
  · exact g_lifts
  · exact g_make
  · kernel_rfl
  · kernel_rfl
  · kernel_rfl
  · kernel_rfl

theorem proved : Rows.CheckedAgainUptoSaid :=
  OpenClaim.holds_of_cond 6 Tryz.f6 rfl rfl rfl rfl rfl rfl rfl ⟨rfl, rfl, rfl, rfl, rfl⟩ rfl rfl rfl rfl rfl (by kernel_rfl) Tryz.func6 joined
    (of_decide_eq_true (by kernel_rfl)) (by unfold Func.isWrapper; first | (rw [if_pos (by decide +kernel)]; kernel_rfl) | (rw [if_neg (by decide +kernel)]; exact ⟨rfl, rfl⟩))
    (fun os started H enc _ F => lifted os started H enc F)
end Go.Proofs.YtfdedoiiahbnnaaGreat.checkedAgain
