/- Part 4 of the proof: The checker's one and check, once check is known for lighter types; so check; The reference's Wrong returns what is wrong with a type; The law of a type's text: the call returns true; The law of schemas without places: the call returns true. No condition. -/
import Derived.Test.YtmphiikdhifhjaaMg2
import Derived.Test.YtmphiikdhifhjaaMg3
set_option linter.all false
set_option maxRecDepth 100000
namespace Go.Proofs.Ytmphiikdhifhjaa
open Go Go.RowKit Dv Try

theorem kone_spec (k : Nat) (ih : KChk k) (h : Hd) (ps : Pts) (depth m : Int) (hk : ps.wt ≤ k) (hbig : (Ty.mk h ps).wt ≤ 1099511627776) (hd0 : 0 ≤ depth) (hd1 : depth ≤ 24) (hm0 : 0 ≤ m) (hm1 : m ≤ 512) :
    Ev Try.prog 39 [.loc 0 0, .agg (dTy (.mk h ps)), .v (.int .i64 depth)] [[.v (.int .i64 m)]] [] (ChkR (wrongOne h ps depth m)) := by
  simp only [Ty.wt, Hd.wt] at hbig
  cases ps with
  | nil =>
    have hS : wrongOne h .nil depth m = ((19, h.at'), m) := by simp only [wrongOne]
    generalize wrongOne h .nil depth m = F at hS ⊢
    refine ev_go (P := Try.prog) tt tt_ok 5000 44 [.cell 6 56] Try.func39 rfl Try.ntmps39 rfl (Nat.le_of_ble_eq_true rfl) (fun E9 w9 hn9 hm9 => ?_)
    refine call_p (enters_of Try.func36 (by decide +kernel) rfl) (bad_spec 19 h.at') (by repeat' (first | exact rfl | exact trivial | exact Or.inr (Or.inl ⟨_, rfl⟩) | exact Or.inr ⟨_, rfl⟩ | exact Or.inl ⟨rfl, rfl⟩ | exact Or.inl rfl | refine Or.inr ⟨_, _, rfl, Nat.zero_le _, rfl, ?_⟩ | refine ⟨_, _, rfl, ?_, ?_⟩ | refine ⟨_, rfl, ?_⟩ | refine Or.inr (Or.inr (Or.inr ⟨_, _, rfl, ?_⟩)) | exact Or.inl rfl | refine Or.inr ?_)) rfl ?_
    exact ⟨_, _, (by repeat' (first | exact rfl | exact trivial | exact Or.inr (Or.inl ⟨_, rfl⟩) | exact Or.inr ⟨_, rfl⟩ | exact Or.inl ⟨rfl, rfl⟩ | exact Or.inl rfl | refine Or.inr ⟨_, _, rfl, Nat.zero_le _, rfl, ?_⟩ | refine ⟨_, _, rfl, ?_, ?_⟩ | refine ⟨_, rfl, ?_⟩ | refine Or.inr (Or.inr (Or.inr ⟨_, _, rfl, ?_⟩)) | exact Or.inl rfl | refine Or.inr ?_)), (by repeat' (first | exact rfl | exact trivial | exact Or.inr (Or.inl ⟨_, rfl⟩) | exact Or.inr ⟨_, rfl⟩ | exact Or.inl ⟨rfl, rfl⟩ | exact Or.inl rfl | refine Or.inr ⟨_, _, rfl, Nat.zero_le _, rfl, ?_⟩ | refine ⟨_, _, rfl, ?_, ?_⟩ | refine ⟨_, rfl, ?_⟩ | refine Or.inr (Or.inr (Or.inr ⟨_, _, rfl, ?_⟩)) | exact Or.inl rfl | refine Or.inr ?_)), chkR_mk (tk := []) (f := (19, h.at')) hS (fun _ => rfl)⟩
  | cons p t r =>
    cases r with
    | cons p2 t2 r2 =>
      have hS : wrongOne h (.cons p t (.cons p2 t2 r2)) depth m = ((19, h.at'), m) := by simp only [wrongOne]
      generalize wrongOne h (.cons p t (.cons p2 t2 r2)) depth m = F at hS ⊢
      refine ev_go (P := Try.prog) tt tt_ok 5000 44 [.cell 6 56] Try.func39 rfl Try.ntmps39 rfl (Nat.le_of_ble_eq_true rfl) (fun E9 w9 hn9 hm9 => ?_)
      refine call_p (enters_of Try.func36 (by decide +kernel) rfl) (bad_spec 19 h.at') (by repeat' (first | exact rfl | exact trivial | exact Or.inr (Or.inl ⟨_, rfl⟩) | exact Or.inr ⟨_, rfl⟩ | exact Or.inl ⟨rfl, rfl⟩ | exact Or.inl rfl | refine Or.inr ⟨_, _, rfl, Nat.zero_le _, rfl, ?_⟩ | refine ⟨_, _, rfl, ?_, ?_⟩ | refine ⟨_, rfl, ?_⟩ | refine Or.inr (Or.inr (Or.inr ⟨_, _, rfl, ?_⟩)) | exact Or.inl rfl | refine Or.inr ?_)) rfl ?_
      exact ⟨_, _, (by repeat' (first | exact rfl | exact trivial | exact Or.inr (Or.inl ⟨_, rfl⟩) | exact Or.inr ⟨_, rfl⟩ | exact Or.inl ⟨rfl, rfl⟩ | exact Or.inl rfl | refine Or.inr ⟨_, _, rfl, Nat.zero_le _, rfl, ?_⟩ | refine ⟨_, _, rfl, ?_, ?_⟩ | refine ⟨_, rfl, ?_⟩ | refine Or.inr (Or.inr (Or.inr ⟨_, _, rfl, ?_⟩)) | exact Or.inl rfl | refine Or.inr ?_)), (by repeat' (first | exact rfl | exact trivial | exact Or.inr (Or.inl ⟨_, rfl⟩) | exact Or.inr ⟨_, rfl⟩ | exact Or.inl ⟨rfl, rfl⟩ | exact Or.inl rfl | refine Or.inr ⟨_, _, rfl, Nat.zero_le _, rfl, ?_⟩ | refine ⟨_, _, rfl, ?_, ?_⟩ | refine ⟨_, rfl, ?_⟩ | refine Or.inr (Or.inr (Or.inr ⟨_, _, rfl, ?_⟩)) | exact Or.inl rfl | refine Or.inr ?_)), chkR_mk (tk := []) (f := (19, h.at')) hS (fun _ => rfl)⟩
    | nil =>
      simp only [Pts.wt] at hbig hk
      have hS : wrongOne h (.cons p t .nil) depth m = if p.name.s ≠ emptyB ∨ plainP p zeroPh = false then ((19, h.at'), m) else if h.most < 0 ∨ 1024 < h.most then ((20, h.at'), m) else wrong t (depth + 1) m := by simp only [wrongOne]
      generalize wrongOne h (.cons p t .nil) depth m = F at hS ⊢
      have hem := kempty_spec p t (by omega)
      rw [empty_eq] at hem
      have hih := ih t (depth + 1) m (by omega) (by omega) (by omega) (by omega) hm0 hm1
      obtain ⟨u, us⟩ := t
      refine ev_go (P := Try.prog) tt tt_ok 5000 44 [.cell 6 56] Try.func39 rfl Try.ntmps39 rfl (Nat.le_of_ble_eq_true rfl) (fun E9 w9 hn9 hm9 => ?_)
      refine ⟨_, ⟨by omega, rfl⟩, ?_⟩
      refine call_p (enters_of Try.func45 (by decide +kernel) rfl) (hem) (by repeat' (first | exact rfl | exact trivial | exact Or.inr (Or.inl ⟨_, rfl⟩) | exact Or.inr ⟨_, rfl⟩ | exact Or.inl ⟨rfl, rfl⟩ | exact Or.inl rfl | refine Or.inr ⟨_, _, rfl, Nat.zero_le _, rfl, ?_⟩ | refine ⟨_, _, rfl, ?_, ?_⟩ | refine ⟨_, rfl, ?_⟩ | refine Or.inr (Or.inr (Or.inr ⟨_, _, rfl, ?_⟩)) | exact Or.inl rfl | refine Or.inr ?_)) rfl ?_
      refine br (fun q => ?_) (fun q => ?_)
      · have q : p.name.s ≠ emptyB ∨ plainP p zeroPh = false := by
          have := q
          simp [pickB] at this
          exact this
        rw [if_pos q] at hS
        refine call_p (enters_of Try.func36 (by decide +kernel) rfl) (bad_spec 19 h.at') (by repeat' (first | exact rfl | exact trivial | exact Or.inr (Or.inl ⟨_, rfl⟩) | exact Or.inr ⟨_, rfl⟩ | exact Or.inl ⟨rfl, rfl⟩ | exact Or.inl rfl | refine Or.inr ⟨_, _, rfl, Nat.zero_le _, rfl, ?_⟩ | refine ⟨_, _, rfl, ?_, ?_⟩ | refine ⟨_, rfl, ?_⟩ | refine Or.inr (Or.inr (Or.inr ⟨_, _, rfl, ?_⟩)) | exact Or.inl rfl | refine Or.inr ?_)) rfl ?_
        exact ⟨_, _, (by repeat' (first | exact rfl | exact trivial | exact Or.inr (Or.inl ⟨_, rfl⟩) | exact Or.inr ⟨_, rfl⟩ | exact Or.inl ⟨rfl, rfl⟩ | exact Or.inl rfl | refine Or.inr ⟨_, _, rfl, Nat.zero_le _, rfl, ?_⟩ | refine ⟨_, _, rfl, ?_, ?_⟩ | refine ⟨_, rfl, ?_⟩ | refine Or.inr (Or.inr (Or.inr ⟨_, _, rfl, ?_⟩)) | exact Or.inl rfl | refine Or.inr ?_)), (by repeat' (first | exact rfl | exact trivial | exact Or.inr (Or.inl ⟨_, rfl⟩) | exact Or.inr ⟨_, rfl⟩ | exact Or.inl ⟨rfl, rfl⟩ | exact Or.inl rfl | refine Or.inr ⟨_, _, rfl, Nat.zero_le _, rfl, ?_⟩ | refine ⟨_, _, rfl, ?_, ?_⟩ | refine ⟨_, rfl, ?_⟩ | refine Or.inr (Or.inr (Or.inr ⟨_, _, rfl, ?_⟩)) | exact Or.inl rfl | refine Or.inr ?_)), chkR_mk (tk := []) (f := (19, h.at')) hS (fun _ => rfl)⟩
      have q : ¬ (p.name.s ≠ emptyB ∨ plainP p zeroPh = false) := by
        have := q
        simp [pickB] at this
        simp [this.1, this.2]
      rw [if_neg q] at hS
      refine br (fun x => ?_) (fun x => ?_)
      · have x : h.most < 0 ∨ 1024 < h.most := by simpa [pickB_or] using x
        rw [if_pos x] at hS
        refine call_p (enters_of Try.func36 (by decide +kernel) rfl) (bad_spec 20 h.at') (by repeat' (first | exact rfl | exact trivial | exact Or.inr (Or.inl ⟨_, rfl⟩) | exact Or.inr ⟨_, rfl⟩ | exact Or.inl ⟨rfl, rfl⟩ | exact Or.inl rfl | refine Or.inr ⟨_, _, rfl, Nat.zero_le _, rfl, ?_⟩ | refine ⟨_, _, rfl, ?_, ?_⟩ | refine ⟨_, rfl, ?_⟩ | refine Or.inr (Or.inr (Or.inr ⟨_, _, rfl, ?_⟩)) | exact Or.inl rfl | refine Or.inr ?_)) rfl ?_
        exact ⟨_, _, (by repeat' (first | exact rfl | exact trivial | exact Or.inr (Or.inl ⟨_, rfl⟩) | exact Or.inr ⟨_, rfl⟩ | exact Or.inl ⟨rfl, rfl⟩ | exact Or.inl rfl | refine Or.inr ⟨_, _, rfl, Nat.zero_le _, rfl, ?_⟩ | refine ⟨_, _, rfl, ?_, ?_⟩ | refine ⟨_, rfl, ?_⟩ | refine Or.inr (Or.inr (Or.inr ⟨_, _, rfl, ?_⟩)) | exact Or.inl rfl | refine Or.inr ?_)), (by repeat' (first | exact rfl | exact trivial | exact Or.inr (Or.inl ⟨_, rfl⟩) | exact Or.inr ⟨_, rfl⟩ | exact Or.inl ⟨rfl, rfl⟩ | exact Or.inl rfl | refine Or.inr ⟨_, _, rfl, Nat.zero_le _, rfl, ?_⟩ | refine ⟨_, _, rfl, ?_, ?_⟩ | refine ⟨_, rfl, ?_⟩ | refine Or.inr (Or.inr (Or.inr ⟨_, _, rfl, ?_⟩)) | exact Or.inl rfl | refine Or.inr ?_)), chkR_mk (tk := []) (f := (20, h.at')) hS (fun _ => rfl)⟩
      have x : ¬ (h.most < 0 ∨ 1024 < h.most) := by simp [pickB_or] at x; omega
      rw [if_neg x] at hS
      refine ⟨_, ⟨by omega, rfl⟩, ?_⟩
      refine call_o (enters_of Try.func29 (by decide +kernel) rfl) rfl rfl (by repeat' (first | exact rfl | exact trivial | exact Or.inr (Or.inl ⟨_, rfl⟩) | exact Or.inr ⟨_, rfl⟩ | exact Or.inl ⟨rfl, rfl⟩ | exact Or.inl rfl | refine Or.inr ⟨_, _, rfl, Nat.zero_le _, rfl, ?_⟩ | refine ⟨_, _, rfl, ?_, ?_⟩ | refine ⟨_, rfl, ?_⟩ | refine Or.inr (Or.inr (Or.inr ⟨_, _, rfl, ?_⟩)) | exact Or.inl rfl | refine Or.inr ?_)) (by repeat' (first | exact rfl | exact trivial | exact Or.inr (Or.inl ⟨_, rfl⟩) | exact Or.inr ⟨_, rfl⟩ | exact Or.inl ⟨rfl, rfl⟩ | exact Or.inl rfl | refine Or.inr ⟨_, _, rfl, Nat.zero_le _, rfl, ?_⟩ | refine ⟨_, _, rfl, ?_, ?_⟩ | refine ⟨_, rfl, ?_⟩ | exact congrArg (fun z => DV.v (.int .i64 z)) (wrap64 (by omega) (by omega)) | refine Or.inr (Or.inr (Or.inr ⟨_, _, rfl, ?_⟩)) | exact Or.inl rfl | refine Or.inr ?_)) hih chkR_cl (fun r cs2 hr => ?_)
      obtain ⟨rfl, z, hz, hzz⟩ := hr
      simp only [List.cons.injEq, and_true] at hz
      subst hz
      exact ⟨_, _, (by repeat' (first | exact rfl | exact trivial | exact Or.inr (Or.inl ⟨_, rfl⟩) | exact Or.inr ⟨_, rfl⟩ | exact Or.inl ⟨rfl, rfl⟩ | exact Or.inl rfl | refine Or.inr ⟨_, _, rfl, Nat.zero_le _, rfl, ?_⟩ | refine ⟨_, _, rfl, ?_, ?_⟩ | refine ⟨_, rfl, ?_⟩ | refine Or.inr (Or.inr (Or.inr ⟨_, _, rfl, ?_⟩)) | exact Or.inl rfl | refine Or.inr ?_)), (by repeat' (first | exact rfl | exact trivial | exact Or.inr (Or.inl ⟨_, rfl⟩) | exact Or.inr ⟨_, rfl⟩ | exact Or.inl ⟨rfl, rfl⟩ | exact Or.inl rfl | refine Or.inr ⟨_, _, rfl, Nat.zero_le _, rfl, ?_⟩ | refine ⟨_, _, rfl, ?_, ?_⟩ | refine ⟨_, rfl, ?_⟩ | refine Or.inr (Or.inr (Or.inr ⟨_, _, rfl, ?_⟩)) | exact Or.inl rfl | refine Or.inr ?_)), chkR_mk (tk := []) (f := (wrong (.mk u us) (depth + 1) m).1) hS hzz⟩

theorem kcheck_step (k : Nat) (ih : KChk k) (h : Hd) (ps : Pts) (depth m : Int) (hk : ps.wt ≤ k) (hbig : (Ty.mk h ps).wt ≤ 1099511627776) (hd0 : 0 ≤ depth) (hd1 : depth ≤ 25) (hm0 : 0 ≤ m) (hm1 : m ≤ 512) :
    Ev Try.prog 29 [.loc 0 0, .agg (dTy (.mk h ps)), .v (.int .i64 depth)] [[.v (.int .i64 m)]] [] (ChkR (wrong (.mk h ps) depth m)) := by
  have hbig' := hbig
  simp only [Ty.wt, Hd.wt] at hbig'
  have hmw : IntKind.i64.wrap (m + 1) = m + 1 := wrap64 (by omega) (by omega)
  have hS := wrong.eq_def (.mk h ps) depth m
  simp only at hS
  generalize wrong (.mk h ps) depth m = F at hS ⊢
  have hown := kown_spec h ps
  rw [ownF_eq] at hown
  refine ev_go (P := Try.prog) tt tt_ok 5000 103 [.cell 6 56] Try.func29 rfl Try.ntmps29 rfl (Nat.le_of_ble_eq_true rfl) (fun E9 w9 hn9 hm9 => ?_)
  refine br (fun c => ?_) (fun c => ?_)
  · have c : 24 < depth := of_decide_eq_true c
    rw [if_pos c] at hS
    refine call_p (enters_of Try.func36 (by decide +kernel) rfl) (bad_spec 6 h.at') (by repeat' (first | exact rfl | exact trivial | exact Or.inr (Or.inl ⟨_, rfl⟩) | exact Or.inr ⟨_, rfl⟩ | exact Or.inl ⟨rfl, rfl⟩ | exact Or.inl rfl | refine Or.inr ⟨_, _, rfl, Nat.zero_le _, rfl, ?_⟩ | refine ⟨_, _, rfl, ?_, ?_⟩ | refine ⟨_, rfl, ?_⟩ | refine Or.inr (Or.inr (Or.inr ⟨_, _, rfl, ?_⟩)) | exact Or.inl rfl | refine Or.inr ?_)) rfl ?_
    exact ⟨_, [[.v (.int .i64 (m + 1))]], (by repeat' (first | exact rfl | exact trivial | exact Or.inr (Or.inl ⟨_, rfl⟩) | exact Or.inr ⟨_, rfl⟩ | exact Or.inl ⟨rfl, rfl⟩ | exact Or.inl rfl | refine Or.inr ⟨_, _, rfl, Nat.zero_le _, rfl, ?_⟩ | refine ⟨_, _, rfl, ?_, ?_⟩ | refine ⟨_, rfl, ?_⟩ | refine Or.inr (Or.inr (Or.inr ⟨_, _, rfl, ?_⟩)) | exact Or.inl rfl | refine Or.inr ?_)), (by repeat' (first | exact rfl | exact trivial | exact Or.inr (Or.inl ⟨_, rfl⟩) | exact Or.inr ⟨_, rfl⟩ | exact Or.inl ⟨rfl, rfl⟩ | exact Or.inl rfl | refine Or.inr ⟨_, _, rfl, Nat.zero_le _, rfl, ?_⟩ | refine ⟨_, _, rfl, ?_, ?_⟩ | refine ⟨_, rfl, ?_⟩ | exact congrArg (fun z => DV.v (.int .i64 z)) hmw | refine Or.inr (Or.inr (Or.inr ⟨_, _, rfl, ?_⟩)) | exact Or.inl rfl | refine Or.inr ?_)), chkR_mk (tk := []) (f := (6, h.at')) hS (fun _ => rfl)⟩
  have c : ¬ 24 < depth := of_decide_eq_false c
  rw [if_neg c] at hS
  refine br (fun c => ?_) (fun c => ?_)
  · have c : 512 < IntKind.i64.wrap (m + 1) := of_decide_eq_true c
    rw [hmw] at c
    rw [if_pos c] at hS
    refine call_p (enters_of Try.func36 (by decide +kernel) rfl) (bad_spec 8 h.at') (by repeat' (first | exact rfl | exact trivial | exact Or.inr (Or.inl ⟨_, rfl⟩) | exact Or.inr ⟨_, rfl⟩ | exact Or.inl ⟨rfl, rfl⟩ | exact Or.inl rfl | refine Or.inr ⟨_, _, rfl, Nat.zero_le _, rfl, ?_⟩ | refine ⟨_, _, rfl, ?_, ?_⟩ | refine ⟨_, rfl, ?_⟩ | refine Or.inr (Or.inr (Or.inr ⟨_, _, rfl, ?_⟩)) | exact Or.inl rfl | refine Or.inr ?_)) rfl ?_
    exact ⟨_, [[.v (.int .i64 (m + 1))]], (by repeat' (first | exact rfl | exact trivial | exact Or.inr (Or.inl ⟨_, rfl⟩) | exact Or.inr ⟨_, rfl⟩ | exact Or.inl ⟨rfl, rfl⟩ | exact Or.inl rfl | refine Or.inr ⟨_, _, rfl, Nat.zero_le _, rfl, ?_⟩ | refine ⟨_, _, rfl, ?_, ?_⟩ | refine ⟨_, rfl, ?_⟩ | refine Or.inr (Or.inr (Or.inr ⟨_, _, rfl, ?_⟩)) | exact Or.inl rfl | refine Or.inr ?_)), (by repeat' (first | exact rfl | exact trivial | exact Or.inr (Or.inl ⟨_, rfl⟩) | exact Or.inr ⟨_, rfl⟩ | exact Or.inl ⟨rfl, rfl⟩ | exact Or.inl rfl | refine Or.inr ⟨_, _, rfl, Nat.zero_le _, rfl, ?_⟩ | refine ⟨_, _, rfl, ?_, ?_⟩ | refine ⟨_, rfl, ?_⟩ | exact congrArg (fun z => DV.v (.int .i64 z)) hmw | refine Or.inr (Or.inr (Or.inr ⟨_, _, rfl, ?_⟩)) | exact Or.inl rfl | refine Or.inr ?_)), chkR_mk (tk := []) (f := (8, h.at')) hS (fun _ => rfl)⟩
  have c : ¬ 512 < IntKind.i64.wrap (m + 1) := of_decide_eq_false c
  rw [hmw] at c
  rw [if_neg c] at hS
  refine br (fun c => ?_) (fun c => ?_)
  · have c : h.kind < 1 ∨ 9 < h.kind := by simpa [pickB_or] using c
    rw [if_pos c] at hS
    refine call_p (enters_of Try.func36 (by decide +kernel) rfl) (bad_spec 14 h.at') (by repeat' (first | exact rfl | exact trivial | exact Or.inr (Or.inl ⟨_, rfl⟩) | exact Or.inr ⟨_, rfl⟩ | exact Or.inl ⟨rfl, rfl⟩ | exact Or.inl rfl | refine Or.inr ⟨_, _, rfl, Nat.zero_le _, rfl, ?_⟩ | refine ⟨_, _, rfl, ?_, ?_⟩ | refine ⟨_, rfl, ?_⟩ | refine Or.inr (Or.inr (Or.inr ⟨_, _, rfl, ?_⟩)) | exact Or.inl rfl | refine Or.inr ?_)) rfl ?_
    exact ⟨_, [[.v (.int .i64 (m + 1))]], (by repeat' (first | exact rfl | exact trivial | exact Or.inr (Or.inl ⟨_, rfl⟩) | exact Or.inr ⟨_, rfl⟩ | exact Or.inl ⟨rfl, rfl⟩ | exact Or.inl rfl | refine Or.inr ⟨_, _, rfl, Nat.zero_le _, rfl, ?_⟩ | refine ⟨_, _, rfl, ?_, ?_⟩ | refine ⟨_, rfl, ?_⟩ | refine Or.inr (Or.inr (Or.inr ⟨_, _, rfl, ?_⟩)) | exact Or.inl rfl | refine Or.inr ?_)), (by repeat' (first | exact rfl | exact trivial | exact Or.inr (Or.inl ⟨_, rfl⟩) | exact Or.inr ⟨_, rfl⟩ | exact Or.inl ⟨rfl, rfl⟩ | exact Or.inl rfl | refine Or.inr ⟨_, _, rfl, Nat.zero_le _, rfl, ?_⟩ | refine ⟨_, _, rfl, ?_, ?_⟩ | refine ⟨_, rfl, ?_⟩ | exact congrArg (fun z => DV.v (.int .i64 z)) hmw | refine Or.inr (Or.inr (Or.inr ⟨_, _, rfl, ?_⟩)) | exact Or.inl rfl | refine Or.inr ?_)), chkR_mk (tk := []) (f := (14, h.at')) hS (fun _ => rfl)⟩
  have ck : ¬ (h.kind < 1 ∨ 9 < h.kind) := by simp [pickB_or] at c; omega
  rw [if_neg ck] at hS
  refine call_p (enters_of Try.func37 (by decide +kernel) rfl) (hown) (by repeat' (first | exact rfl | exact trivial | exact Or.inr (Or.inl ⟨_, rfl⟩) | exact Or.inr ⟨_, rfl⟩ | exact Or.inl ⟨rfl, rfl⟩ | exact Or.inl rfl | refine Or.inr ⟨_, _, rfl, Nat.zero_le _, rfl, ?_⟩ | refine ⟨_, _, rfl, ?_, ?_⟩ | refine ⟨_, rfl, ?_⟩ | refine Or.inr (Or.inr (Or.inr ⟨_, _, rfl, ?_⟩)) | exact Or.inl rfl | refine Or.inr ?_)) rfl ?_
  refine br (fun c => ?_) (fun c => ?_)
  · have c : ownB (.mk h ps) = false := by simpa [ownB] using c
    rw [if_pos c] at hS
    refine call_p (enters_of Try.func36 (by decide +kernel) rfl) (bad_spec 19 h.at') (by repeat' (first | exact rfl | exact trivial | exact Or.inr (Or.inl ⟨_, rfl⟩) | exact Or.inr ⟨_, rfl⟩ | exact Or.inl ⟨rfl, rfl⟩ | exact Or.inl rfl | refine Or.inr ⟨_, _, rfl, Nat.zero_le _, rfl, ?_⟩ | refine ⟨_, _, rfl, ?_, ?_⟩ | refine ⟨_, rfl, ?_⟩ | refine Or.inr (Or.inr (Or.inr ⟨_, _, rfl, ?_⟩)) | exact Or.inl rfl | refine Or.inr ?_)) rfl ?_
    exact ⟨_, [[.v (.int .i64 (m + 1))]], (by repeat' (first | exact rfl | exact trivial | exact Or.inr (Or.inl ⟨_, rfl⟩) | exact Or.inr ⟨_, rfl⟩ | exact Or.inl ⟨rfl, rfl⟩ | exact Or.inl rfl | refine Or.inr ⟨_, _, rfl, Nat.zero_le _, rfl, ?_⟩ | refine ⟨_, _, rfl, ?_, ?_⟩ | refine ⟨_, rfl, ?_⟩ | refine Or.inr (Or.inr (Or.inr ⟨_, _, rfl, ?_⟩)) | exact Or.inl rfl | refine Or.inr ?_)), (by repeat' (first | exact rfl | exact trivial | exact Or.inr (Or.inl ⟨_, rfl⟩) | exact Or.inr ⟨_, rfl⟩ | exact Or.inl ⟨rfl, rfl⟩ | exact Or.inl rfl | refine Or.inr ⟨_, _, rfl, Nat.zero_le _, rfl, ?_⟩ | refine ⟨_, _, rfl, ?_, ?_⟩ | refine ⟨_, rfl, ?_⟩ | exact congrArg (fun z => DV.v (.int .i64 z)) hmw | refine Or.inr (Or.inr (Or.inr ⟨_, _, rfl, ?_⟩)) | exact Or.inl rfl | refine Or.inr ?_)), chkR_mk (tk := []) (f := (19, h.at')) hS (fun _ => rfl)⟩
  have c : ¬ ownB (.mk h ps) = false := by simpa [ownB] using c
  rw [if_neg c] at hS
  refine br (fun k2 => ?_) (fun k2 => ?_)
  · have k2 : h.kind = 2 := of_decide_eq_true k2
    refine br (fun x => ?_) (fun x => ?_)
    · have x : h.hi < h.lo := of_decide_eq_true x
      rw [if_pos (.inl ⟨k2, x⟩)] at hS
      refine call_p (enters_of Try.func36 (by decide +kernel) rfl) (bad_spec 20 h.at') (by repeat' (first | exact rfl | exact trivial | exact Or.inr (Or.inl ⟨_, rfl⟩) | exact Or.inr ⟨_, rfl⟩ | exact Or.inl ⟨rfl, rfl⟩ | exact Or.inl rfl | refine Or.inr ⟨_, _, rfl, Nat.zero_le _, rfl, ?_⟩ | refine ⟨_, _, rfl, ?_, ?_⟩ | refine ⟨_, rfl, ?_⟩ | refine Or.inr (Or.inr (Or.inr ⟨_, _, rfl, ?_⟩)) | exact Or.inl rfl | refine Or.inr ?_)) rfl ?_
      exact ⟨_, [[.v (.int .i64 (m + 1))]], (by repeat' (first | exact rfl | exact trivial | exact Or.inr (Or.inl ⟨_, rfl⟩) | exact Or.inr ⟨_, rfl⟩ | exact Or.inl ⟨rfl, rfl⟩ | exact Or.inl rfl | refine Or.inr ⟨_, _, rfl, Nat.zero_le _, rfl, ?_⟩ | refine ⟨_, _, rfl, ?_, ?_⟩ | refine ⟨_, rfl, ?_⟩ | refine Or.inr (Or.inr (Or.inr ⟨_, _, rfl, ?_⟩)) | exact Or.inl rfl | refine Or.inr ?_)), (by repeat' (first | exact rfl | exact trivial | exact Or.inr (Or.inl ⟨_, rfl⟩) | exact Or.inr ⟨_, rfl⟩ | exact Or.inl ⟨rfl, rfl⟩ | exact Or.inl rfl | refine Or.inr ⟨_, _, rfl, Nat.zero_le _, rfl, ?_⟩ | refine ⟨_, _, rfl, ?_, ?_⟩ | refine ⟨_, rfl, ?_⟩ | exact congrArg (fun z => DV.v (.int .i64 z)) hmw | refine Or.inr (Or.inr (Or.inr ⟨_, _, rfl, ?_⟩)) | exact Or.inl rfl | refine Or.inr ?_)), chkR_mk (tk := []) (f := (20, h.at')) hS (fun _ => rfl)⟩
    have x : ¬ h.hi < h.lo := of_decide_eq_false x
    rw [if_neg (by omega), if_neg (by omega), if_neg (by omega), if_neg (by omega), if_neg (by omega)] at hS
    exact ⟨_, [[.v (.int .i64 (m + 1))]], (by repeat' (first | exact rfl | exact trivial | exact Or.inr (Or.inl ⟨_, rfl⟩) | exact Or.inr ⟨_, rfl⟩ | exact Or.inl ⟨rfl, rfl⟩ | exact Or.inl rfl | refine Or.inr ⟨_, _, rfl, Nat.zero_le _, rfl, ?_⟩ | refine ⟨_, _, rfl, ?_, ?_⟩ | refine ⟨_, rfl, ?_⟩ | refine Or.inr (Or.inr (Or.inr ⟨_, _, rfl, ?_⟩)) | exact Or.inl rfl | refine Or.inr ?_)), (by repeat' (first | exact rfl | exact trivial | exact Or.inr (Or.inl ⟨_, rfl⟩) | exact Or.inr ⟨_, rfl⟩ | exact Or.inl ⟨rfl, rfl⟩ | exact Or.inl rfl | refine Or.inr ⟨_, _, rfl, Nat.zero_le _, rfl, ?_⟩ | refine ⟨_, _, rfl, ?_, ?_⟩ | refine ⟨_, rfl, ?_⟩ | exact congrArg (fun z => DV.v (.int .i64 z)) hmw | refine Or.inr (Or.inr (Or.inr ⟨_, _, rfl, ?_⟩)) | exact Or.inl rfl | refine Or.inr ?_)), chkR_mk (tk := []) (f := (0, 0)) hS (fun _ => rfl)⟩
  have k2 : ¬ h.kind = 2 := of_decide_eq_false k2
  refine br (fun k3 => ?_) (fun k3 => ?_)
  · have k3 : h.kind = 3 := of_decide_eq_true k3
    refine br (fun x => ?_) (fun x => ?_)
    · have x : h.most < 0 ∨ 4096 < h.most := by simpa [pickB_or] using x
      rw [if_pos (.inr ⟨k3, x⟩)] at hS
      refine call_p (enters_of Try.func36 (by decide +kernel) rfl) (bad_spec 20 h.at') (by repeat' (first | exact rfl | exact trivial | exact Or.inr (Or.inl ⟨_, rfl⟩) | exact Or.inr ⟨_, rfl⟩ | exact Or.inl ⟨rfl, rfl⟩ | exact Or.inl rfl | refine Or.inr ⟨_, _, rfl, Nat.zero_le _, rfl, ?_⟩ | refine ⟨_, _, rfl, ?_, ?_⟩ | refine ⟨_, rfl, ?_⟩ | refine Or.inr (Or.inr (Or.inr ⟨_, _, rfl, ?_⟩)) | exact Or.inl rfl | refine Or.inr ?_)) rfl ?_
      exact ⟨_, [[.v (.int .i64 (m + 1))]], (by repeat' (first | exact rfl | exact trivial | exact Or.inr (Or.inl ⟨_, rfl⟩) | exact Or.inr ⟨_, rfl⟩ | exact Or.inl ⟨rfl, rfl⟩ | exact Or.inl rfl | refine Or.inr ⟨_, _, rfl, Nat.zero_le _, rfl, ?_⟩ | refine ⟨_, _, rfl, ?_, ?_⟩ | refine ⟨_, rfl, ?_⟩ | refine Or.inr (Or.inr (Or.inr ⟨_, _, rfl, ?_⟩)) | exact Or.inl rfl | refine Or.inr ?_)), (by repeat' (first | exact rfl | exact trivial | exact Or.inr (Or.inl ⟨_, rfl⟩) | exact Or.inr ⟨_, rfl⟩ | exact Or.inl ⟨rfl, rfl⟩ | exact Or.inl rfl | refine Or.inr ⟨_, _, rfl, Nat.zero_le _, rfl, ?_⟩ | refine ⟨_, _, rfl, ?_, ?_⟩ | refine ⟨_, rfl, ?_⟩ | exact congrArg (fun z => DV.v (.int .i64 z)) hmw | refine Or.inr (Or.inr (Or.inr ⟨_, _, rfl, ?_⟩)) | exact Or.inl rfl | refine Or.inr ?_)), chkR_mk (tk := []) (f := (20, h.at')) hS (fun _ => rfl)⟩
    have x : ¬ (h.most < 0 ∨ 4096 < h.most) := by simp [pickB_or] at x; omega
    rw [if_neg (by omega), if_neg (by omega), if_neg (by omega), if_neg (by omega), if_neg (by omega)] at hS
    exact ⟨_, [[.v (.int .i64 (m + 1))]], (by repeat' (first | exact rfl | exact trivial | exact Or.inr (Or.inl ⟨_, rfl⟩) | exact Or.inr ⟨_, rfl⟩ | exact Or.inl ⟨rfl, rfl⟩ | exact Or.inl rfl | refine Or.inr ⟨_, _, rfl, Nat.zero_le _, rfl, ?_⟩ | refine ⟨_, _, rfl, ?_, ?_⟩ | refine ⟨_, rfl, ?_⟩ | refine Or.inr (Or.inr (Or.inr ⟨_, _, rfl, ?_⟩)) | exact Or.inl rfl | refine Or.inr ?_)), (by repeat' (first | exact rfl | exact trivial | exact Or.inr (Or.inl ⟨_, rfl⟩) | exact Or.inr ⟨_, rfl⟩ | exact Or.inl ⟨rfl, rfl⟩ | exact Or.inl rfl | refine Or.inr ⟨_, _, rfl, Nat.zero_le _, rfl, ?_⟩ | refine ⟨_, _, rfl, ?_, ?_⟩ | refine ⟨_, rfl, ?_⟩ | exact congrArg (fun z => DV.v (.int .i64 z)) hmw | refine Or.inr (Or.inr (Or.inr ⟨_, _, rfl, ?_⟩)) | exact Or.inl rfl | refine Or.inr ?_)), chkR_mk (tk := []) (f := (0, 0)) hS (fun _ => rfl)⟩
  have k3 : ¬ h.kind = 3 := of_decide_eq_false k3
  rw [if_neg (by omega)] at hS
  refine br (fun k4 => ?_) (fun k4 => ?_)
  · have k4 : h.kind = 4 := of_decide_eq_true k4
    rw [if_neg (by omega), if_pos k4, ← kenum_eq] at hS
    refine call_p (enters_of Try.func38 (by decide +kernel) rfl) (kenum_spec h ps (by omega)) (by repeat' (first | exact rfl | exact trivial | exact Or.inr (Or.inl ⟨_, rfl⟩) | exact Or.inr ⟨_, rfl⟩ | exact Or.inl ⟨rfl, rfl⟩ | exact Or.inl rfl | refine Or.inr ⟨_, _, rfl, Nat.zero_le _, rfl, ?_⟩ | refine ⟨_, _, rfl, ?_, ?_⟩ | refine ⟨_, rfl, ?_⟩ | refine Or.inr (Or.inr (Or.inr ⟨_, _, rfl, ?_⟩)) | exact Or.inl rfl | refine Or.inr ?_)) rfl ?_
    exact ⟨_, [[.v (.int .i64 (m + 1))]], (by repeat' (first | exact rfl | exact trivial | exact Or.inr (Or.inl ⟨_, rfl⟩) | exact Or.inr ⟨_, rfl⟩ | exact Or.inl ⟨rfl, rfl⟩ | exact Or.inl rfl | refine Or.inr ⟨_, _, rfl, Nat.zero_le _, rfl, ?_⟩ | refine ⟨_, _, rfl, ?_, ?_⟩ | refine ⟨_, rfl, ?_⟩ | refine Or.inr (Or.inr (Or.inr ⟨_, _, rfl, ?_⟩)) | exact Or.inl rfl | refine Or.inr ?_)), (by repeat' (first | exact rfl | exact trivial | exact Or.inr (Or.inl ⟨_, rfl⟩) | exact Or.inr ⟨_, rfl⟩ | exact Or.inl ⟨rfl, rfl⟩ | exact Or.inl rfl | refine Or.inr ⟨_, _, rfl, Nat.zero_le _, rfl, ?_⟩ | refine ⟨_, _, rfl, ?_, ?_⟩ | refine ⟨_, rfl, ?_⟩ | exact congrArg (fun z => DV.v (.int .i64 z)) hmw | refine Or.inr (Or.inr (Or.inr ⟨_, _, rfl, ?_⟩)) | exact Or.inl rfl | refine Or.inr ?_)), chkR_mk (tk := []) (f := kenumF h) hS (fun _ => rfl)⟩
  have k4 : ¬ h.kind = 4 := of_decide_eq_false k4
  refine br (fun k5 => ?_) (fun k5 => ?_)
  · have k5' : h.kind = 5 ∨ h.kind = 6 := .inl (of_decide_eq_true k5)
    rw [if_neg (by omega), if_neg (by omega), if_pos k5'] at hS
    refine br (fun _ => ?_) (fun hc => by rw [k5] at hc; cases hc)
    refine call_o (enters_of Try.func39 (by decide +kernel) rfl) rfl rfl (cs' := [.v (.int .i64 (m + 1))]) (by repeat' (first | exact rfl | exact trivial | exact Or.inr (Or.inl ⟨_, rfl⟩) | exact Or.inr ⟨_, rfl⟩ | exact Or.inl ⟨rfl, rfl⟩ | exact Or.inl rfl | refine Or.inr ⟨_, _, rfl, Nat.zero_le _, rfl, ?_⟩ | refine ⟨_, _, rfl, ?_, ?_⟩ | refine ⟨_, rfl, ?_⟩ | exact congrArg (fun z => DV.v (.int .i64 z)) hmw | refine Or.inr (Or.inr (Or.inr ⟨_, _, rfl, ?_⟩)) | exact Or.inl rfl | refine Or.inr ?_)) (by repeat' (first | exact rfl | exact trivial | exact Or.inr (Or.inl ⟨_, rfl⟩) | exact Or.inr ⟨_, rfl⟩ | exact Or.inl ⟨rfl, rfl⟩ | exact Or.inl rfl | refine Or.inr ⟨_, _, rfl, Nat.zero_le _, rfl, ?_⟩ | refine ⟨_, _, rfl, ?_, ?_⟩ | refine ⟨_, rfl, ?_⟩ | refine Or.inr (Or.inr (Or.inr ⟨_, _, rfl, ?_⟩)) | exact Or.inl rfl | refine Or.inr ?_)) (kone_spec k ih h ps depth (m + 1) hk hbig hd0 (by omega) (by omega) (by omega)) chkR_cl (fun r cs2 hr => ?_)
    obtain ⟨rfl, z, hz, hzz⟩ := hr
    simp only [List.cons.injEq, and_true] at hz
    subst hz
    exact ⟨_, _, (by repeat' (first | exact rfl | exact trivial | exact Or.inr (Or.inl ⟨_, rfl⟩) | exact Or.inr ⟨_, rfl⟩ | exact Or.inl ⟨rfl, rfl⟩ | exact Or.inl rfl | refine Or.inr ⟨_, _, rfl, Nat.zero_le _, rfl, ?_⟩ | refine ⟨_, _, rfl, ?_, ?_⟩ | refine ⟨_, rfl, ?_⟩ | refine Or.inr (Or.inr (Or.inr ⟨_, _, rfl, ?_⟩)) | exact Or.inl rfl | refine Or.inr ?_)), (by repeat' (first | exact rfl | exact trivial | exact Or.inr (Or.inl ⟨_, rfl⟩) | exact Or.inr ⟨_, rfl⟩ | exact Or.inl ⟨rfl, rfl⟩ | exact Or.inl rfl | refine Or.inr ⟨_, _, rfl, Nat.zero_le _, rfl, ?_⟩ | refine ⟨_, _, rfl, ?_, ?_⟩ | refine ⟨_, rfl, ?_⟩ | refine Or.inr (Or.inr (Or.inr ⟨_, _, rfl, ?_⟩)) | exact Or.inl rfl | refine Or.inr ?_)), chkR_mk (tk := []) (f := (wrongOne h ps depth (m + 1)).1) hS hzz⟩
  have k5 : ¬ h.kind = 5 := of_decide_eq_false k5
  refine br (fun k6 => ?_) (fun k6 => ?_)
  · have k5' : h.kind = 5 ∨ h.kind = 6 := .inr (of_decide_eq_true k6)
    rw [if_neg (by omega), if_neg (by omega), if_pos k5'] at hS
    refine call_o (enters_of Try.func39 (by decide +kernel) rfl) rfl rfl (cs' := [.v (.int .i64 (m + 1))]) (by repeat' (first | exact rfl | exact trivial | exact Or.inr (Or.inl ⟨_, rfl⟩) | exact Or.inr ⟨_, rfl⟩ | exact Or.inl ⟨rfl, rfl⟩ | exact Or.inl rfl | refine Or.inr ⟨_, _, rfl, Nat.zero_le _, rfl, ?_⟩ | refine ⟨_, _, rfl, ?_, ?_⟩ | refine ⟨_, rfl, ?_⟩ | exact congrArg (fun z => DV.v (.int .i64 z)) hmw | refine Or.inr (Or.inr (Or.inr ⟨_, _, rfl, ?_⟩)) | exact Or.inl rfl | refine Or.inr ?_)) (by repeat' (first | exact rfl | exact trivial | exact Or.inr (Or.inl ⟨_, rfl⟩) | exact Or.inr ⟨_, rfl⟩ | exact Or.inl ⟨rfl, rfl⟩ | exact Or.inl rfl | refine Or.inr ⟨_, _, rfl, Nat.zero_le _, rfl, ?_⟩ | refine ⟨_, _, rfl, ?_, ?_⟩ | refine ⟨_, rfl, ?_⟩ | refine Or.inr (Or.inr (Or.inr ⟨_, _, rfl, ?_⟩)) | exact Or.inl rfl | refine Or.inr ?_)) (kone_spec k ih h ps depth (m + 1) hk hbig hd0 (by omega) (by omega) (by omega)) chkR_cl (fun r cs2 hr => ?_)
    obtain ⟨rfl, z, hz, hzz⟩ := hr
    simp only [List.cons.injEq, and_true] at hz
    subst hz
    exact ⟨_, _, (by repeat' (first | exact rfl | exact trivial | exact Or.inr (Or.inl ⟨_, rfl⟩) | exact Or.inr ⟨_, rfl⟩ | exact Or.inl ⟨rfl, rfl⟩ | exact Or.inl rfl | refine Or.inr ⟨_, _, rfl, Nat.zero_le _, rfl, ?_⟩ | refine ⟨_, _, rfl, ?_, ?_⟩ | refine ⟨_, rfl, ?_⟩ | refine Or.inr (Or.inr (Or.inr ⟨_, _, rfl, ?_⟩)) | exact Or.inl rfl | refine Or.inr ?_)), (by repeat' (first | exact rfl | exact trivial | exact Or.inr (Or.inl ⟨_, rfl⟩) | exact Or.inr ⟨_, rfl⟩ | exact Or.inl ⟨rfl, rfl⟩ | exact Or.inl rfl | refine Or.inr ⟨_, _, rfl, Nat.zero_le _, rfl, ?_⟩ | refine ⟨_, _, rfl, ?_, ?_⟩ | refine ⟨_, rfl, ?_⟩ | refine Or.inr (Or.inr (Or.inr ⟨_, _, rfl, ?_⟩)) | exact Or.inl rfl | refine Or.inr ?_)), chkR_mk (tk := []) (f := (wrongOne h ps depth (m + 1)).1) hS hzz⟩
  have k6 : ¬ h.kind = 6 := of_decide_eq_false k6
  have hP : partsF h ps depth (m + 1) = partsF h ps depth (m + 1) := rfl
  conv at hP => lhs; unfold partsF
  refine br (fun k7 => ?_) (fun k7 => ?_)
  · have k7' : h.kind = 7 ∨ h.kind = 8 := .inl (of_decide_eq_true k7)
    rw [if_neg (by omega), if_neg (by omega), if_neg (by omega), if_pos k7', hP] at hS
    refine br (fun _ => ?_) (fun hc => by rw [k7] at hc; cases hc)
    refine call_o (enters_of Try.func40 (by decide +kernel) rfl) rfl rfl (cs' := [.v (.int .i64 (m + 1))]) (by repeat' (first | exact rfl | exact trivial | exact Or.inr (Or.inl ⟨_, rfl⟩) | exact Or.inr ⟨_, rfl⟩ | exact Or.inl ⟨rfl, rfl⟩ | exact Or.inl rfl | refine Or.inr ⟨_, _, rfl, Nat.zero_le _, rfl, ?_⟩ | refine ⟨_, _, rfl, ?_, ?_⟩ | refine ⟨_, rfl, ?_⟩ | exact congrArg (fun z => DV.v (.int .i64 z)) hmw | refine Or.inr (Or.inr (Or.inr ⟨_, _, rfl, ?_⟩)) | exact Or.inl rfl | refine Or.inr ?_)) (by repeat' (first | exact rfl | exact trivial | exact Or.inr (Or.inl ⟨_, rfl⟩) | exact Or.inr ⟨_, rfl⟩ | exact Or.inl ⟨rfl, rfl⟩ | exact Or.inl rfl | refine Or.inr ⟨_, _, rfl, Nat.zero_le _, rfl, ?_⟩ | refine ⟨_, _, rfl, ?_, ?_⟩ | refine ⟨_, rfl, ?_⟩ | refine Or.inr (Or.inr (Or.inr ⟨_, _, rfl, ?_⟩)) | exact Or.inl rfl | refine Or.inr ?_)) (kparts_spec k ih h ps depth (m + 1) k7' hk hbig hd0 (by omega) (by omega) (by omega)) chkR_cl (fun r cs2 hr => ?_)
    obtain ⟨rfl, z, hz, hzz⟩ := hr
    simp only [List.cons.injEq, and_true] at hz
    subst hz
    exact ⟨_, _, (by repeat' (first | exact rfl | exact trivial | exact Or.inr (Or.inl ⟨_, rfl⟩) | exact Or.inr ⟨_, rfl⟩ | exact Or.inl ⟨rfl, rfl⟩ | exact Or.inl rfl | refine Or.inr ⟨_, _, rfl, Nat.zero_le _, rfl, ?_⟩ | refine ⟨_, _, rfl, ?_, ?_⟩ | refine ⟨_, rfl, ?_⟩ | refine Or.inr (Or.inr (Or.inr ⟨_, _, rfl, ?_⟩)) | exact Or.inl rfl | refine Or.inr ?_)), (by repeat' (first | exact rfl | exact trivial | exact Or.inr (Or.inl ⟨_, rfl⟩) | exact Or.inr ⟨_, rfl⟩ | exact Or.inl ⟨rfl, rfl⟩ | exact Or.inl rfl | refine Or.inr ⟨_, _, rfl, Nat.zero_le _, rfl, ?_⟩ | refine ⟨_, _, rfl, ?_, ?_⟩ | refine ⟨_, rfl, ?_⟩ | refine Or.inr (Or.inr (Or.inr ⟨_, _, rfl, ?_⟩)) | exact Or.inl rfl | refine Or.inr ?_)), chkR_mk (tk := []) (f := (partsF h ps depth (m + 1)).1) hS hzz⟩
  have k7 : ¬ h.kind = 7 := of_decide_eq_false k7
  refine br (fun k8 => ?_) (fun k8 => ?_)
  · have k7' : h.kind = 7 ∨ h.kind = 8 := .inr (of_decide_eq_true k8)
    rw [if_neg (by omega), if_neg (by omega), if_neg (by omega), if_pos k7', hP] at hS
    refine call_o (enters_of Try.func40 (by decide +kernel) rfl) rfl rfl (cs' := [.v (.int .i64 (m + 1))]) (by repeat' (first | exact rfl | exact trivial | exact Or.inr (Or.inl ⟨_, rfl⟩) | exact Or.inr ⟨_, rfl⟩ | exact Or.inl ⟨rfl, rfl⟩ | exact Or.inl rfl | refine Or.inr ⟨_, _, rfl, Nat.zero_le _, rfl, ?_⟩ | refine ⟨_, _, rfl, ?_, ?_⟩ | refine ⟨_, rfl, ?_⟩ | exact congrArg (fun z => DV.v (.int .i64 z)) hmw | refine Or.inr (Or.inr (Or.inr ⟨_, _, rfl, ?_⟩)) | exact Or.inl rfl | refine Or.inr ?_)) (by repeat' (first | exact rfl | exact trivial | exact Or.inr (Or.inl ⟨_, rfl⟩) | exact Or.inr ⟨_, rfl⟩ | exact Or.inl ⟨rfl, rfl⟩ | exact Or.inl rfl | refine Or.inr ⟨_, _, rfl, Nat.zero_le _, rfl, ?_⟩ | refine ⟨_, _, rfl, ?_, ?_⟩ | refine ⟨_, rfl, ?_⟩ | refine Or.inr (Or.inr (Or.inr ⟨_, _, rfl, ?_⟩)) | exact Or.inl rfl | refine Or.inr ?_)) (kparts_spec k ih h ps depth (m + 1) k7' hk hbig hd0 (by omega) (by omega) (by omega)) chkR_cl (fun r cs2 hr => ?_)
    obtain ⟨rfl, z, hz, hzz⟩ := hr
    simp only [List.cons.injEq, and_true] at hz
    subst hz
    exact ⟨_, _, (by repeat' (first | exact rfl | exact trivial | exact Or.inr (Or.inl ⟨_, rfl⟩) | exact Or.inr ⟨_, rfl⟩ | exact Or.inl ⟨rfl, rfl⟩ | exact Or.inl rfl | refine Or.inr ⟨_, _, rfl, Nat.zero_le _, rfl, ?_⟩ | refine ⟨_, _, rfl, ?_, ?_⟩ | refine ⟨_, rfl, ?_⟩ | refine Or.inr (Or.inr (Or.inr ⟨_, _, rfl, ?_⟩)) | exact Or.inl rfl | refine Or.inr ?_)), (by repeat' (first | exact rfl | exact trivial | exact Or.inr (Or.inl ⟨_, rfl⟩) | exact Or.inr ⟨_, rfl⟩ | exact Or.inl ⟨rfl, rfl⟩ | exact Or.inl rfl | refine Or.inr ⟨_, _, rfl, Nat.zero_le _, rfl, ?_⟩ | refine ⟨_, _, rfl, ?_, ?_⟩ | refine ⟨_, rfl, ?_⟩ | refine Or.inr (Or.inr (Or.inr ⟨_, _, rfl, ?_⟩)) | exact Or.inl rfl | refine Or.inr ?_)), chkR_mk (tk := []) (f := (partsF h ps depth (m + 1)).1) hS hzz⟩
  have k8 : ¬ h.kind = 8 := of_decide_eq_false k8
  refine br (fun k9 => ?_) (fun k9 => ?_)
  · have k9 : h.kind = 9 := of_decide_eq_true k9
    refine call_p (enters_of Try.func41 (by decide +kernel) rfl) (right_spec h.name.s (by simp only [Wd.wt] at hbig'; omega)) (by repeat' (first | exact rfl | exact trivial | exact Or.inr (Or.inl ⟨_, rfl⟩) | exact Or.inr ⟨_, rfl⟩ | exact Or.inl ⟨rfl, rfl⟩ | exact Or.inl rfl | refine Or.inr ⟨_, _, rfl, Nat.zero_le _, rfl, ?_⟩ | refine ⟨_, _, rfl, ?_, ?_⟩ | refine ⟨_, rfl, ?_⟩ | refine Or.inr (Or.inr (Or.inr ⟨_, _, rfl, ?_⟩)) | exact Or.inl rfl | refine Or.inr ?_)) rfl ?_
    refine br (fun q => ?_) (fun q => ?_)
    · have q : nameOK h.name.s = false := by simpa using q
      rw [if_pos ⟨k9, q⟩] at hS
      refine call_p (enters_of Try.func36 (by decide +kernel) rfl) (bad_spec 9 h.name.a) (by repeat' (first | exact rfl | exact trivial | exact Or.inr (Or.inl ⟨_, rfl⟩) | exact Or.inr ⟨_, rfl⟩ | exact Or.inl ⟨rfl, rfl⟩ | exact Or.inl rfl | refine Or.inr ⟨_, _, rfl, Nat.zero_le _, rfl, ?_⟩ | refine ⟨_, _, rfl, ?_, ?_⟩ | refine ⟨_, rfl, ?_⟩ | refine Or.inr (Or.inr (Or.inr ⟨_, _, rfl, ?_⟩)) | exact Or.inl rfl | refine Or.inr ?_)) rfl ?_
      exact ⟨_, [[.v (.int .i64 (m + 1))]], (by repeat' (first | exact rfl | exact trivial | exact Or.inr (Or.inl ⟨_, rfl⟩) | exact Or.inr ⟨_, rfl⟩ | exact Or.inl ⟨rfl, rfl⟩ | exact Or.inl rfl | refine Or.inr ⟨_, _, rfl, Nat.zero_le _, rfl, ?_⟩ | refine ⟨_, _, rfl, ?_, ?_⟩ | refine ⟨_, rfl, ?_⟩ | refine Or.inr (Or.inr (Or.inr ⟨_, _, rfl, ?_⟩)) | exact Or.inl rfl | refine Or.inr ?_)), (by repeat' (first | exact rfl | exact trivial | exact Or.inr (Or.inl ⟨_, rfl⟩) | exact Or.inr ⟨_, rfl⟩ | exact Or.inl ⟨rfl, rfl⟩ | exact Or.inl rfl | refine Or.inr ⟨_, _, rfl, Nat.zero_le _, rfl, ?_⟩ | refine ⟨_, _, rfl, ?_, ?_⟩ | refine ⟨_, rfl, ?_⟩ | exact congrArg (fun z => DV.v (.int .i64 z)) hmw | refine Or.inr (Or.inr (Or.inr ⟨_, _, rfl, ?_⟩)) | exact Or.inl rfl | refine Or.inr ?_)), chkR_mk (tk := []) (f := (9, h.name.a)) hS (fun _ => rfl)⟩
    · have q : nameOK h.name.s = true := by simpa using q
      rw [if_neg (by simp [q]), if_neg (by omega), if_neg (by omega), if_neg (by omega)] at hS
      exact ⟨_, [[.v (.int .i64 (m + 1))]], (by repeat' (first | exact rfl | exact trivial | exact Or.inr (Or.inl ⟨_, rfl⟩) | exact Or.inr ⟨_, rfl⟩ | exact Or.inl ⟨rfl, rfl⟩ | exact Or.inl rfl | refine Or.inr ⟨_, _, rfl, Nat.zero_le _, rfl, ?_⟩ | refine ⟨_, _, rfl, ?_, ?_⟩ | refine ⟨_, rfl, ?_⟩ | refine Or.inr (Or.inr (Or.inr ⟨_, _, rfl, ?_⟩)) | exact Or.inl rfl | refine Or.inr ?_)), (by repeat' (first | exact rfl | exact trivial | exact Or.inr (Or.inl ⟨_, rfl⟩) | exact Or.inr ⟨_, rfl⟩ | exact Or.inl ⟨rfl, rfl⟩ | exact Or.inl rfl | refine Or.inr ⟨_, _, rfl, Nat.zero_le _, rfl, ?_⟩ | refine ⟨_, _, rfl, ?_, ?_⟩ | refine ⟨_, rfl, ?_⟩ | exact congrArg (fun z => DV.v (.int .i64 z)) hmw | refine Or.inr (Or.inr (Or.inr ⟨_, _, rfl, ?_⟩)) | exact Or.inl rfl | refine Or.inr ?_)), chkR_mk (tk := []) (f := (0, 0)) hS (fun _ => rfl)⟩
  have k9 : ¬ h.kind = 9 := of_decide_eq_false k9
  rw [if_neg (by omega), if_neg (by omega), if_neg (by omega), if_neg (by omega)] at hS
  exact ⟨_, [[.v (.int .i64 (m + 1))]], (by repeat' (first | exact rfl | exact trivial | exact Or.inr (Or.inl ⟨_, rfl⟩) | exact Or.inr ⟨_, rfl⟩ | exact Or.inl ⟨rfl, rfl⟩ | exact Or.inl rfl | refine Or.inr ⟨_, _, rfl, Nat.zero_le _, rfl, ?_⟩ | refine ⟨_, _, rfl, ?_, ?_⟩ | refine ⟨_, rfl, ?_⟩ | refine Or.inr (Or.inr (Or.inr ⟨_, _, rfl, ?_⟩)) | exact Or.inl rfl | refine Or.inr ?_)), (by repeat' (first | exact rfl | exact trivial | exact Or.inr (Or.inl ⟨_, rfl⟩) | exact Or.inr ⟨_, rfl⟩ | exact Or.inl ⟨rfl, rfl⟩ | exact Or.inl rfl | refine Or.inr ⟨_, _, rfl, Nat.zero_le _, rfl, ?_⟩ | refine ⟨_, _, rfl, ?_, ?_⟩ | refine ⟨_, rfl, ?_⟩ | exact congrArg (fun z => DV.v (.int .i64 z)) hmw | refine Or.inr (Or.inr (Or.inr ⟨_, _, rfl, ?_⟩)) | exact Or.inl rfl | refine Or.inr ?_)), chkR_mk (tk := []) (f := (0, 0)) hS (fun _ => rfl)⟩

theorem kchk_any : ∀ k, KChk k
  | 0 => fun t depth m hk => by have := t.wt_pos; omega
  | k + 1 => fun t depth m hk hbig hd0 hd1 hm0 hm1 => by
    obtain ⟨h, ps⟩ := t
    have hk' := hk
    simp only [Ty.wt, Hd.wt] at hk'
    exact kcheck_step k (kchk_any k) h ps depth m (by omega) hbig hd0 hd1 hm0 hm1

/-- **kinds.Right.** -/
theorem kright_spec (t : Ty) (hbig : t.wt ≤ 1099511627776) : EvP Try.prog 20 [.agg (dTy t)] (wrong t 1 0).1.d :=
  kright_of t (kchk_any t.wt t 1 0 (Nat.le_refl _) hbig (by omega) (by omega) (by omega) (by omega))

/-- **unparse.Type.** -/
theorem utype_spec (t : Ty) (hbig : t.wt ≤ 1099511627776) (hr : rngT t) : EvP Try.prog 11 [.agg (dTy t)] (.v (.string (typeT t))) :=
  utype_of t hbig (wrong_fine t 1 0 hr) (kchk_any t.wt t 1 0 (Nat.le_refl _) hbig (by omega) (by omega) (by omega) (by omega))
end Go.Proofs.Ytmphiikdhifhjaa
set_option maxRecDepth 100000
namespace Go.Proofs.Ytmphiikdhifhjaa
open Go Go.RowKit Dv Try

abbrev wrongSt (h : Hd) (ps : Pts) (e : Nat) (depth m : Int) : St :=
  ⟨[(2, ⟨[], .v (.int .i64 depth)⟩), (3, ⟨[], .loc 0 0⟩), (4, ⟨[], .loc 1 0⟩), (6, ⟨[], .loc 2 0⟩), (7, ⟨[], .v (.int .i64 e)⟩)], [[.v (.int .i64 0), .v (.int .i64 0), .v (.int .i64 m)], dTy (.mk h ps), [.v (.int .i64 0), .v (.int .i64 0), .v (.int .i64 0)]], []⟩

end Go.Proofs.Ytmphiikdhifhjaa
set_option maxRecDepth 100000
namespace Go.Proofs.Ytmphiikdhifhjaa
open Go Go.RowKit Dv Try

/-- The chapter's example: opt(bool). -/
def liveTy : Ty := .mk ⟨6, 0, 0, 0, 0, [], ⟨emptyB, 0⟩⟩ (.cons zeroPh (.mk ⟨1, 0, 0, 0, 0, [], ⟨emptyB, 0⟩⟩ .nil) .nil)

theorem live_fine : (wrong liveTy 1 0).1.1 = 0 := by
  simp [liveTy, wrong, wrongOne, ownB, sameTy, sameHd, samePts, sameWds, mask, maskHd, plainP, zeroPh]
theorem live_text : typeT liveTy = ⟨#[111, 112, 116, 40, 98, 111, 111, 108, 41]⟩ := by
  unfold typeT
  rw [if_pos live_fine]
  decide +kernel

theorem lives17_spec : EvP Try.prog 5 [] (.v (.bool true)) := by
  have hu := utype_spec liveTy (by decide) (by simp [liveTy, rngT, rngP, I64, zeroPh])
  refine ev_go (P := Try.prog) tt tt_ok 5000 7 [.tmp 0] Try.func5 rfl Try.ntmps5 rfl (Nat.le_of_ble_eq_true rfl) (fun E9 w9 hn9 hm9 => ?_)
  refine call_p (enters_of Try.func11 (by decide +kernel) rfl) (hu) (by repeat' (first | exact rfl | exact trivial | exact Or.inr (Or.inl ⟨_, rfl⟩) | exact Or.inr ⟨_, rfl⟩ | exact Or.inl ⟨rfl, rfl⟩ | exact Or.inl rfl | refine Or.inr ⟨_, _, rfl, Nat.zero_le _, rfl, ?_⟩ | refine ⟨_, _, rfl, ?_, ?_⟩ | refine ⟨_, rfl, ?_⟩ | refine Or.inr (Or.inr (Or.inr ⟨_, _, rfl, ?_⟩)) | exact Or.inl rfl | refine Or.inr ?_)) rfl ?_
  refine (congrArg (fun b => DV.v (.bool b)) ?_ : _ = _)
  rw [live_text]
  decide +kernel

/-- The law's text of a type. -/
def wantT (t : Ty) : ByteArray := if (wrong t 1 0).1.1 = 0 then ba (tyT t) else ⟨#[]⟩

end Go.Proofs.Ytmphiikdhifhjaa
set_option maxRecDepth 100000
namespace Go.Proofs.Ytmphiikdhifhjaa
open Go Go.RowKit Dv Try

theorem stripS_wt (s : Sch) : (stripS s).wt = s.wt := by
  have h1 : ∀ l : List (Wd × Wd), prsWt (l.map stripPr) = prsWt l := by
    intro l
    induction l with
    | nil => rfl
    | cons x r ih => simp only [List.map_cons, prsWt, ih, stripPr, stripWd, Wd.wt]
  have h2 : ∀ l : List (Wd × Ty), nmsWt (l.map stripNm) = nmsWt l := by
    intro l
    induction l with
    | nil => rfl
    | cons x r ih => simp only [List.map_cons, nmsWt, ih, stripNm, stripWd, Wd.wt, stripT_wt]
  simp only [Sch.wt, stripS, plainW_wt, h1, h2, stripT_wt]

theorem sameWds_refl : ∀ l : List Wd, sameWds l l = true
  | [] => rfl
  | x :: r => by simp [sameWds, sameWds_refl r]
theorem sameTy_refl (t : Ty) : sameTy t t = true := by
  obtain ⟨h, ps⟩ := t
  simp [sameTy, sameHd, samePts_refl ps, sameWds_refl]
theorem samePrs_refl : ∀ l : List (Wd × Wd), samePrs l l = true
  | [] => rfl
  | x :: r => by simp [samePrs, samePrs_refl r]
theorem sameNms_refl : ∀ l : List (Wd × Ty), sameNms l l = true
  | [] => rfl
  | x :: r => by simp [sameNms, sameNms_refl r, sameTy_refl]
theorem samePrs_l (l : List (Wd × Wd)) : samePrs (l.map stripPr) l = true := by
  induction l with
  | nil => rfl
  | cons x r ih => simp [samePrs, ih, stripPr, stripWd]
theorem samePrs_r (l : List (Wd × Wd)) : samePrs l (l.map stripPr) = true := by
  induction l with
  | nil => rfl
  | cons x r ih => simp [samePrs, ih, stripPr, stripWd]
theorem sameNms_l (l : List (Wd × Ty)) : sameNms (l.map stripNm) l = true := by
  induction l with
  | nil => rfl
  | cons x r ih => simp [sameNms, ih, stripNm, stripWd, sameTy_l, sameTy_refl]
theorem sameNms_r (l : List (Wd × Ty)) : sameNms l (l.map stripNm) = true := by
  induction l with
  | nil => rfl
  | cons x r ih => simp [sameNms, ih, stripNm, stripWd, sameTy_r, sameTy_refl]
theorem sameS_l (s : Sch) : sameS (stripS s) s = true := by
  simp [sameS, stripS, sameWds_pl, sameWds_refl, samePrs_l, sameNms_l, sameTy_l, sameTy_refl]
theorem sameS_r (s : Sch) : sameS s (stripS s) = true := by
  simp [sameS, stripS, sameWds_pr, sameWds_refl, samePrs_r, sameNms_r, sameTy_r, sameTy_refl]

theorem usame_spec (a b : Sch) (ha : a.wt ≤ 1099511627776) (hb : b.wt ≤ 1099511627776) : EvP Try.prog 9 [.agg (dSch a), .agg (dSch b)] (.v (.bool (sameS a b))) := by
  have sa := ustrip_spec a ha
  have sb := ustrip_spec b hb
  have wa := stripS_wt a
  have wb := stripS_wt b
  have h1 := wdsWt_len (stripS a).levels
  have h2 := prsWt_len (stripS a).order
  rw [← wa] at ha
  rw [← wb] at hb
  simp only [Sch.wt] at ha hb
  have e1 := equalW_spec (stripS a).levels (stripS b).levels (by omega)
  have e2 := equalPr_spec (stripS a).order (stripS b).order (by omega)
  have e3 := ksame_spec (stripS a).root (stripS b).root (by omega) (by omega)
  have e4 := equalN_spec (stripS a).types (stripS b).types (by omega) (by omega)
  have hF : sameS a b = (eqWds (stripS a).levels (stripS b).levels && eqPrs (stripS a).order (stripS b).order && sameTy (stripS a).root (stripS b).root && eqNms (stripS a).types (stripS b).types) := by
    simp only [sameS, stripS, eqWds_plain, eqPrs_strip, eqNms_strip, sameTy_l, sameTy_r]
  generalize stripS a = A at *
  generalize stripS b = B at *
  obtain ⟨al, ao, at', ⟨ah, aps⟩⟩ := a
  obtain ⟨bl, bo, bt, ⟨bh, bps⟩⟩ := b
  obtain ⟨Al, Ao, At, ⟨Ah, Aps⟩⟩ := A
  obtain ⟨Bl, Bo, Bt, ⟨Bh, Bps⟩⟩ := B
  simp only at e1 e2 e3 e4 hF
  rw [hF]
  refine ev_go (P := Try.prog) tt tt_ok 5000 35 [.tmp 4] Try.func9 rfl Try.ntmps9 rfl (Nat.le_of_ble_eq_true rfl) (fun E9 w9 hn9 hm9 => ?_)
  refine drawG_s mo (by decide +kernel) ?_
  refine callD_p (enters_of Try.func6 (by decide +kernel) rfl) (sa) (by repeat' (first | exact rfl | exact trivial | exact Or.inr (Or.inl ⟨_, rfl⟩) | exact Or.inr ⟨_, rfl⟩ | exact Or.inl ⟨rfl, rfl⟩ | exact Or.inl rfl | refine Or.inr ⟨_, _, rfl, Nat.zero_le _, rfl, ?_⟩ | refine ⟨_, _, rfl, ?_, ?_⟩ | refine ⟨_, rfl, ?_⟩ | refine Or.inr (Or.inr (Or.inr ⟨_, _, rfl, ?_⟩)) | exact Or.inl rfl | refine Or.inr ?_)) rfl ?_
  refine callD_p (enters_of Try.func6 (by decide +kernel) rfl) (sb) (by repeat' (first | exact rfl | exact trivial | exact Or.inr (Or.inl ⟨_, rfl⟩) | exact Or.inr ⟨_, rfl⟩ | exact Or.inl ⟨rfl, rfl⟩ | exact Or.inl rfl | refine Or.inr ⟨_, _, rfl, Nat.zero_le _, rfl, ?_⟩ | refine ⟨_, _, rfl, ?_, ?_⟩ | refine ⟨_, rfl, ?_⟩ | refine Or.inr (Or.inr (Or.inr ⟨_, _, rfl, ?_⟩)) | exact Or.inl rfl | refine Or.inr ?_)) rfl ?_
  refine call_p (enters_of Try.func15 (by decide +kernel) rfl) (e1) (by repeat' (first | exact rfl | exact trivial | exact Or.inr (Or.inl ⟨_, rfl⟩) | exact Or.inr ⟨_, rfl⟩ | exact Or.inl ⟨rfl, rfl⟩ | exact Or.inl rfl | refine Or.inr ⟨_, _, rfl, Nat.zero_le _, rfl, ?_⟩ | refine ⟨_, _, rfl, ?_, ?_⟩ | refine ⟨_, rfl, ?_⟩ | refine Or.inr (Or.inr (Or.inr ⟨_, _, rfl, ?_⟩)) | exact Or.inl rfl | refine Or.inr ?_)) rfl ?_
  refine br (fun g1 => ?_) (fun g1 => ?_)
  · have g1 : eqWds Al Bl = true := by simpa using g1
    refine call_p (enters_of Try.func16 (by decide +kernel) rfl) (e2) (by repeat' (first | exact rfl | exact trivial | exact Or.inr (Or.inl ⟨_, rfl⟩) | exact Or.inr ⟨_, rfl⟩ | exact Or.inl ⟨rfl, rfl⟩ | exact Or.inl rfl | refine Or.inr ⟨_, _, rfl, Nat.zero_le _, rfl, ?_⟩ | refine ⟨_, _, rfl, ?_, ?_⟩ | refine ⟨_, rfl, ?_⟩ | refine Or.inr (Or.inr (Or.inr ⟨_, _, rfl, ?_⟩)) | exact Or.inl rfl | refine Or.inr ?_)) rfl ?_
    refine br (fun g2 => ?_) (fun g2 => ?_)
    · have g2 : eqPrs Ao Bo = true := by simpa [pickB, g1] using g2
      refine call_p (enters_of Try.func17 (by decide +kernel) rfl) (e3) (by repeat' (first | exact rfl | exact trivial | exact Or.inr (Or.inl ⟨_, rfl⟩) | exact Or.inr ⟨_, rfl⟩ | exact Or.inl ⟨rfl, rfl⟩ | exact Or.inl rfl | refine Or.inr ⟨_, _, rfl, Nat.zero_le _, rfl, ?_⟩ | refine ⟨_, _, rfl, ?_, ?_⟩ | refine ⟨_, rfl, ?_⟩ | refine Or.inr (Or.inr (Or.inr ⟨_, _, rfl, ?_⟩)) | exact Or.inl rfl | refine Or.inr ?_)) rfl ?_
      refine br (fun g3 => ?_) (fun g3 => ?_)
      · have g3 : sameTy (.mk Ah Aps) (.mk Bh Bps) = true := by simpa [pickB, g1, g2] using g3
        refine call_p (enters_of Try.func18 (by decide +kernel) rfl) (e4) (by repeat' (first | exact rfl | exact trivial | exact Or.inr (Or.inl ⟨_, rfl⟩) | exact Or.inr ⟨_, rfl⟩ | exact Or.inl ⟨rfl, rfl⟩ | exact Or.inl rfl | refine Or.inr ⟨_, _, rfl, Nat.zero_le _, rfl, ?_⟩ | refine ⟨_, _, rfl, ?_, ?_⟩ | refine ⟨_, rfl, ?_⟩ | refine Or.inr (Or.inr (Or.inr ⟨_, _, rfl, ?_⟩)) | exact Or.inl rfl | refine Or.inr ?_)) rfl ?_
        refine (congrArg (fun b => DV.v (.bool b)) ?_ : _ = _)
        simp [pickB, g1, g2, g3]
      · have g3 : sameTy (.mk Ah Aps) (.mk Bh Bps) = false := by simpa [pickB, g1, g2] using g3
        refine (congrArg (fun b => DV.v (.bool b)) ?_ : _ = _)
        simp [pickB, g1, g2, g3]
    · have g2 : eqPrs Ao Bo = false := by simpa [pickB, g1] using g2
      refine (congrArg (fun b => DV.v (.bool b)) ?_ : _ = _)
      simp [pickB, g1, g2]
  · have g1 : eqWds Al Bl = false := by simpa using g1
    refine (congrArg (fun b => DV.v (.bool b)) ?_ : _ = _)
    simp [pickB, g1]

theorem strips17_spec (a b : Sch) (ha : a.wt ≤ 1099511627776) (hb : b.wt ≤ 1099511627776) : EvP Try.prog 3 [.agg (dSch a), .agg (dSch b)] (.v (.bool true)) := by
  have ga := great17_spec a ha
  have gb := great17_spec b hb
  have sa := ustrip_spec a ha
  have wa := stripS_wt a
  have s1 := same17_spec (stripS a) a (by omega) ha
  have p1 := place17_spec a ha
  have u1 := usame_spec a b ha hb
  have s2 := same17_spec a b ha hb
  have u2 := usame_spec a (stripS a) ha (by omega)
  rw [sameS_l] at s1
  rw [sameS_r] at u2
  generalize sameS a b = F at u1 s2
  generalize stripS a = A at *
  obtain ⟨al, ao, at', ⟨ah, aps⟩⟩ := a
  obtain ⟨bl, bo, bt, ⟨bh, bps⟩⟩ := b
  obtain ⟨Al, Ao, At, ⟨Ah, Aps⟩⟩ := A
  refine ev_go (P := Try.prog) tt tt_ok 5000 39 [.tmp 4] Try.func3 rfl Try.ntmps3 rfl (Nat.le_of_ble_eq_true rfl) (fun E9 w9 hn9 hm9 => ?_)
  refine call_e (enters_of Try.func4 (by decide +kernel) rfl) rfl ga (by repeat' (first | exact rfl | exact trivial | exact Or.inr (Or.inl ⟨_, rfl⟩) | exact Or.inr ⟨_, rfl⟩ | exact Or.inl ⟨rfl, rfl⟩ | exact Or.inl rfl | refine Or.inr ⟨_, _, rfl, Nat.zero_le _, rfl, ?_⟩ | refine ⟨_, _, rfl, ?_, ?_⟩ | refine ⟨_, rfl, ?_⟩ | refine Or.inr (Or.inr (Or.inr ⟨_, _, rfl, ?_⟩)) | exact Or.inl rfl | refine Or.inr ?_)) (fun r hr => ?_)
  obtain ⟨g, rfl⟩ := hr
  cases g with
  | true =>
    refine call_p (enters_of Try.func5 (by decide +kernel) rfl) (lives17_spec) (by repeat' (first | exact rfl | exact trivial | exact Or.inr (Or.inl ⟨_, rfl⟩) | exact Or.inr ⟨_, rfl⟩ | exact Or.inl ⟨rfl, rfl⟩ | exact Or.inl rfl | refine Or.inr ⟨_, _, rfl, Nat.zero_le _, rfl, ?_⟩ | refine ⟨_, _, rfl, ?_, ?_⟩ | refine ⟨_, rfl, ?_⟩ | refine Or.inr (Or.inr (Or.inr ⟨_, _, rfl, ?_⟩)) | exact Or.inl rfl | refine Or.inr ?_)) rfl ?_
    exact (rfl : _ = _)
  | false =>
  refine call_e (enters_of Try.func4 (by decide +kernel) rfl) rfl gb (by repeat' (first | exact rfl | exact trivial | exact Or.inr (Or.inl ⟨_, rfl⟩) | exact Or.inr ⟨_, rfl⟩ | exact Or.inl ⟨rfl, rfl⟩ | exact Or.inl rfl | refine Or.inr ⟨_, _, rfl, Nat.zero_le _, rfl, ?_⟩ | refine ⟨_, _, rfl, ?_, ?_⟩ | refine ⟨_, rfl, ?_⟩ | refine Or.inr (Or.inr (Or.inr ⟨_, _, rfl, ?_⟩)) | exact Or.inl rfl | refine Or.inr ?_)) (fun r hr => ?_)
  obtain ⟨g, rfl⟩ := hr
  cases g with
  | true =>
    refine call_p (enters_of Try.func5 (by decide +kernel) rfl) (lives17_spec) (by repeat' (first | exact rfl | exact trivial | exact Or.inr (Or.inl ⟨_, rfl⟩) | exact Or.inr ⟨_, rfl⟩ | exact Or.inl ⟨rfl, rfl⟩ | exact Or.inl rfl | refine Or.inr ⟨_, _, rfl, Nat.zero_le _, rfl, ?_⟩ | refine ⟨_, _, rfl, ?_, ?_⟩ | refine ⟨_, rfl, ?_⟩ | refine Or.inr (Or.inr (Or.inr ⟨_, _, rfl, ?_⟩)) | exact Or.inl rfl | refine Or.inr ?_)) rfl ?_
    exact (rfl : _ = _)
  | false =>
  refine call_p (enters_of Try.func6 (by decide +kernel) rfl) (sa) (by repeat' (first | exact rfl | exact trivial | exact Or.inr (Or.inl ⟨_, rfl⟩) | exact Or.inr ⟨_, rfl⟩ | exact Or.inl ⟨rfl, rfl⟩ | exact Or.inl rfl | refine Or.inr ⟨_, _, rfl, Nat.zero_le _, rfl, ?_⟩ | refine ⟨_, _, rfl, ?_, ?_⟩ | refine ⟨_, rfl, ?_⟩ | refine Or.inr (Or.inr (Or.inr ⟨_, _, rfl, ?_⟩)) | exact Or.inl rfl | refine Or.inr ?_)) rfl ?_
  refine drawG_s mo (by decide +kernel) ?_
  refine callD_p (enters_of Try.func7 (by decide +kernel) rfl) (s1) (by repeat' (first | exact rfl | exact trivial | exact Or.inr (Or.inl ⟨_, rfl⟩) | exact Or.inr ⟨_, rfl⟩ | exact Or.inl ⟨rfl, rfl⟩ | exact Or.inl rfl | refine Or.inr ⟨_, _, rfl, Nat.zero_le _, rfl, ?_⟩ | refine ⟨_, _, rfl, ?_, ?_⟩ | refine ⟨_, rfl, ?_⟩ | refine Or.inr (Or.inr (Or.inr ⟨_, _, rfl, ?_⟩)) | exact Or.inl rfl | refine Or.inr ?_)) rfl ?_
  refine callD_p (enters_of Try.func8 (by decide +kernel) rfl) (p1) (by repeat' (first | exact rfl | exact trivial | exact Or.inr (Or.inl ⟨_, rfl⟩) | exact Or.inr ⟨_, rfl⟩ | exact Or.inl ⟨rfl, rfl⟩ | exact Or.inl rfl | refine Or.inr ⟨_, _, rfl, Nat.zero_le _, rfl, ?_⟩ | refine ⟨_, _, rfl, ?_, ?_⟩ | refine ⟨_, rfl, ?_⟩ | refine Or.inr (Or.inr (Or.inr ⟨_, _, rfl, ?_⟩)) | exact Or.inl rfl | refine Or.inr ?_)) rfl ?_
  refine callD_p (enters_of Try.func9 (by decide +kernel) rfl) (u1) (by repeat' (first | exact rfl | exact trivial | exact Or.inr (Or.inl ⟨_, rfl⟩) | exact Or.inr ⟨_, rfl⟩ | exact Or.inl ⟨rfl, rfl⟩ | exact Or.inl rfl | refine Or.inr ⟨_, _, rfl, Nat.zero_le _, rfl, ?_⟩ | refine ⟨_, _, rfl, ?_, ?_⟩ | refine ⟨_, rfl, ?_⟩ | refine Or.inr (Or.inr (Or.inr ⟨_, _, rfl, ?_⟩)) | exact Or.inl rfl | refine Or.inr ?_)) rfl ?_
  refine callD_p (enters_of Try.func7 (by decide +kernel) rfl) (s2) (by repeat' (first | exact rfl | exact trivial | exact Or.inr (Or.inl ⟨_, rfl⟩) | exact Or.inr ⟨_, rfl⟩ | exact Or.inl ⟨rfl, rfl⟩ | exact Or.inl rfl | refine Or.inr ⟨_, _, rfl, Nat.zero_le _, rfl, ?_⟩ | refine ⟨_, _, rfl, ?_, ?_⟩ | refine ⟨_, rfl, ?_⟩ | refine Or.inr (Or.inr (Or.inr ⟨_, _, rfl, ?_⟩)) | exact Or.inl rfl | refine Or.inr ?_)) rfl ?_
  have hF0 : (pickB true (F == F) false == true) = true := by cases F <;> rfl
  refine br (fun _ => ?_) (fun hc => absurd (hF0.symm.trans hc) (by decide))
  refine callD_p (enters_of Try.func9 (by decide +kernel) rfl) (u2) (by repeat' (first | exact rfl | exact trivial | exact Or.inr (Or.inl ⟨_, rfl⟩) | exact Or.inr ⟨_, rfl⟩ | exact Or.inl ⟨rfl, rfl⟩ | exact Or.inl rfl | refine Or.inr ⟨_, _, rfl, Nat.zero_le _, rfl, ?_⟩ | refine ⟨_, _, rfl, ?_, ?_⟩ | refine ⟨_, rfl, ?_⟩ | refine Or.inr (Or.inr (Or.inr ⟨_, _, rfl, ?_⟩)) | exact Or.inl rfl | refine Or.inr ?_)) rfl ?_
  refine callD_p (enters_of Try.func5 (by decide +kernel) rfl) (lives17_spec) (by repeat' (first | exact rfl | exact trivial | exact Or.inr (Or.inl ⟨_, rfl⟩) | exact Or.inr ⟨_, rfl⟩ | exact Or.inl ⟨rfl, rfl⟩ | exact Or.inl rfl | refine Or.inr ⟨_, _, rfl, Nat.zero_le _, rfl, ?_⟩ | refine ⟨_, _, rfl, ?_, ?_⟩ | refine ⟨_, rfl, ?_⟩ | refine Or.inr (Or.inr (Or.inr ⟨_, _, rfl, ?_⟩)) | exact Or.inl rfl | refine Or.inr ?_)) rfl ?_
  refine (congrArg (fun b => DV.v (.bool b)) ?_ : _ = _)
  cases F <;> rfl
theorem strips17_law (a : Sch) (ha : a.wt ≤ 1099511627776) (_ : rngS a) (b : Sch) (hb : b.wt ≤ 1099511627776) (_ : rngS b) : EvP Try.prog 3 [.agg (dSch a), .agg (dSch b)] (.v (.bool true)) := strips17_spec a b ha hb
end Go.Proofs.Ytmphiikdhifhjaa
