/- Part 5 of the proof: lattice.best, and the closures of bounds; lattice.bounds: all joins and meets; lattice.Build; Reading a lattice: Len, has, Name, Find, Join, Meet, Bottom; labels.Of; The checker's part, once check is known for lighter types; The checker's parts, once check is known for lighter types; The checker's one and check, once check is known for lighter types; so check; kinds.Count, resolve.nodes; the builder's level; The builder's end, loops, known; The builder's each, right, called; The builder's each of right; called; places; The builder's places; The builder's edge. No condition. -/
import Derived.Test.YtmphiikdhifhjaaGreatMg4
set_option linter.all false
set_option maxRecDepth 100000
namespace Go.Proofs.YtmphiikdhifhjaaGreat
open Go Go.RowKit Dv Tryz

def cZ (l : List Int) : List DV := l.map fun z => DV.v (.int .i64 z)
/-- A lattice's cells: the names, the table, which is at most which, joins and meets. -/
def dLt (names : List ByteArray) (tb lq : DV) (js : List Int) : List DV := .sl 1 (dBs names) none :: tb :: lq :: cZ js

def oz : Option Nat → Int
  | none => -1
  | some k => (k : Int)

/-- The best of some things, as it is found. -/
def bestC (pb : Nat → Nat → Bool) (e : Nat) : Option Nat → Bool
  | none => true
  | some o => pb e o
def bestA (pin : Nat → Bool) (pb : Nat → Nat → Bool) : Nat → Option Nat
  | 0 => none
  | e + 1 => if pin e && bestC pb e (bestA pin pb e) then some e else bestA pin pb e
def bestN (pin : Nat → Bool) (pb : Nat → Nat → Bool) (n : Nat) : Option Nat :=
  match bestA pin pb n with
  | none => none
  | some o => if (List.range n).any (fun c => pin c && !pb o c) then none else some o

theorem bestA_lt {pin : Nat → Bool} {pb : Nat → Nat → Bool} : ∀ {e k : Nat}, bestA pin pb e = some k → k < e
  | 0, k, h => by cases h
  | e + 1, k, h => by
    rw [bestA] at h
    split at h
    · simp only [Option.some.injEq] at h; omega
    · have := bestA_lt h; omega

theorem bnd1_spec (names : List ByteArray) (tb : DV) (rows : List Nat) (js : List Int) (hr : RelOK rows) (a b : Nat) (ha : a < rows.length) (hb : b < rows.length) :
    EvP Tryz.prog 179 [.v (.int .i64 a), .v (.int .i64 b), .pt [.pt (dLt names tb (dRel rows) js) 0] 0] (.v (.bool (bitB rows a b))) := by
  have h1 := rhas_spec rows hr a b
  rw [hasB_nat ha hb] at h1
  refine ev_go (P := Tryz.prog) tt tt_ok 5000 13 [.tmp 5] Tryz.func179 rfl Tryz.ntmps179 rfl (Nat.le_of_ble_eq_true rfl) (fun E9 w9 hn9 hm9 => ?_)
  refine call_p (enters_of Tryz.func180 (by decide +kernel) rfl) (h1) (by repeat' (first | exact rfl | exact trivial | exact Or.inr (Or.inl ⟨_, rfl⟩) | exact Or.inr ⟨_, rfl⟩ | exact Or.inl ⟨rfl, rfl⟩ | exact Or.inl rfl | refine Or.inr ⟨_, _, rfl, Nat.zero_le _, rfl, ?_⟩ | refine ⟨_, _, rfl, ?_, ?_⟩ | refine ⟨_, rfl, ?_⟩ | refine Or.inr (Or.inr (Or.inr ⟨_, _, rfl, ?_⟩)) | exact Or.inl rfl | refine Or.inr ?_)) rfl ?_
  exact (rfl : _ = _)
theorem bnd2_spec (names : List ByteArray) (tb : DV) (rows : List Nat) (js : List Int) (hr : RelOK rows) (a b : Nat) (ha : a < rows.length) (hb : b < rows.length) :
    EvP Tryz.prog 181 [.v (.int .i64 a), .v (.int .i64 b), .pt [.pt (dLt names tb (dRel rows) js) 0] 0] (.v (.bool (bitB rows b a))) := by
  have h1 := rhas_spec rows hr b a
  rw [hasB_nat hb ha] at h1
  refine ev_go (P := Tryz.prog) tt tt_ok 5000 13 [.tmp 5] Tryz.func181 rfl Tryz.ntmps181 rfl (Nat.le_of_ble_eq_true rfl) (fun E9 w9 hn9 hm9 => ?_)
  refine call_p (enters_of Tryz.func180 (by decide +kernel) rfl) (h1) (by repeat' (first | exact rfl | exact trivial | exact Or.inr (Or.inl ⟨_, rfl⟩) | exact Or.inr ⟨_, rfl⟩ | exact Or.inl ⟨rfl, rfl⟩ | exact Or.inl rfl | refine Or.inr ⟨_, _, rfl, Nat.zero_le _, rfl, ?_⟩ | refine ⟨_, _, rfl, ?_, ?_⟩ | refine ⟨_, rfl, ?_⟩ | refine Or.inr (Or.inr (Or.inr ⟨_, _, rfl, ?_⟩)) | exact Or.inl rfl | refine Or.inr ?_)) rfl ?_
  exact (rfl : _ = _)

abbrev bnd1F (L : List DV) : DV := .fn 179 [] [.pt [.pt L 0] 0]
abbrev bnd2F (L : List DV) : DV := .fn 181 [] [.pt [.pt L 0] 0]

theorem bnd3_spec (names : List ByteArray) (tb : DV) (rows : List Nat) (js : List Int) (hr : RelOK rows) (a b c : Nat) (ha : a < rows.length) (hb : b < rows.length) (hc : c < rows.length) :
    EvP Tryz.prog 183 [.v (.int .i64 c), .pt [bnd1F (dLt names tb (dRel rows) js)] 0, .pt [.v (.int .i64 a)] 0, .pt [.v (.int .i64 b)] 0] (.v (.bool (bitB rows a c && bitB rows b c))) := by
  have h1 := bnd1_spec names tb rows js hr a c ha hc
  have h2 := bnd1_spec names tb rows js hr b c hb hc
  refine ev_go (P := Tryz.prog) tt tt_ok 5000 16 [.tmp 5] Tryz.func183 rfl Tryz.ntmps183 rfl (Nat.le_of_ble_eq_true rfl) (fun E9 w9 hn9 hm9 => ?_)
  refine call_p (enters_of Tryz.func179 (by decide +kernel) rfl) (h1) (by repeat' (first | exact rfl | exact trivial | exact Or.inr (Or.inl ⟨_, rfl⟩) | exact Or.inr ⟨_, rfl⟩ | exact Or.inl ⟨rfl, rfl⟩ | exact Or.inl rfl | refine Or.inr ⟨_, _, rfl, Nat.zero_le _, rfl, ?_⟩ | refine ⟨_, _, rfl, ?_, ?_⟩ | refine ⟨_, rfl, ?_⟩ | refine Or.inr (Or.inr (Or.inr ⟨_, _, rfl, ?_⟩)) | exact Or.inl rfl | refine Or.inr ?_)) rfl ?_
  refine br (fun g => ?_) (fun g => ?_)
  · have g : bitB rows a c = true := by simpa using g
    refine call_p (enters_of Tryz.func179 (by decide +kernel) rfl) (h2) (by repeat' (first | exact rfl | exact trivial | exact Or.inr (Or.inl ⟨_, rfl⟩) | exact Or.inr ⟨_, rfl⟩ | exact Or.inl ⟨rfl, rfl⟩ | exact Or.inl rfl | refine Or.inr ⟨_, _, rfl, Nat.zero_le _, rfl, ?_⟩ | refine ⟨_, _, rfl, ?_, ?_⟩ | refine ⟨_, rfl, ?_⟩ | refine Or.inr (Or.inr (Or.inr ⟨_, _, rfl, ?_⟩)) | exact Or.inl rfl | refine Or.inr ?_)) rfl ?_
    refine (congrArg (fun b => DV.v (.bool b)) ?_ : _ = _)
    simp [g, pickB]
  · have g : bitB rows a c = false := by simpa using g
    refine (congrArg (fun b => DV.v (.bool b)) ?_ : _ = _)
    simp [g, pickB]
theorem bnd4_spec (names : List ByteArray) (tb : DV) (rows : List Nat) (js : List Int) (hr : RelOK rows) (a b c : Nat) (ha : a < rows.length) (hb : b < rows.length) (hc : c < rows.length) :
    EvP Tryz.prog 184 [.v (.int .i64 c), .pt [bnd2F (dLt names tb (dRel rows) js)] 0, .pt [.v (.int .i64 a)] 0, .pt [.v (.int .i64 b)] 0] (.v (.bool (bitB rows c a && bitB rows c b))) := by
  have h1 := bnd2_spec names tb rows js hr a c ha hc
  have h2 := bnd2_spec names tb rows js hr b c hb hc
  refine ev_go (P := Tryz.prog) tt tt_ok 5000 16 [.tmp 5] Tryz.func184 rfl Tryz.ntmps184 rfl (Nat.le_of_ble_eq_true rfl) (fun E9 w9 hn9 hm9 => ?_)
  refine call_p (enters_of Tryz.func181 (by decide +kernel) rfl) (h1) (by repeat' (first | exact rfl | exact trivial | exact Or.inr (Or.inl ⟨_, rfl⟩) | exact Or.inr ⟨_, rfl⟩ | exact Or.inl ⟨rfl, rfl⟩ | exact Or.inl rfl | refine Or.inr ⟨_, _, rfl, Nat.zero_le _, rfl, ?_⟩ | refine ⟨_, _, rfl, ?_, ?_⟩ | refine ⟨_, rfl, ?_⟩ | refine Or.inr (Or.inr (Or.inr ⟨_, _, rfl, ?_⟩)) | exact Or.inl rfl | refine Or.inr ?_)) rfl ?_
  refine br (fun g => ?_) (fun g => ?_)
  · have g : bitB rows c a = true := by simpa using g
    refine call_p (enters_of Tryz.func181 (by decide +kernel) rfl) (h2) (by repeat' (first | exact rfl | exact trivial | exact Or.inr (Or.inl ⟨_, rfl⟩) | exact Or.inr ⟨_, rfl⟩ | exact Or.inl ⟨rfl, rfl⟩ | exact Or.inl rfl | refine Or.inr ⟨_, _, rfl, Nat.zero_le _, rfl, ?_⟩ | refine ⟨_, _, rfl, ?_, ?_⟩ | refine ⟨_, rfl, ?_⟩ | refine Or.inr (Or.inr (Or.inr ⟨_, _, rfl, ?_⟩)) | exact Or.inl rfl | refine Or.inr ?_)) rfl ?_
    refine (congrArg (fun b => DV.v (.bool b)) ?_ : _ = _)
    simp [g, pickB]
  · have g : bitB rows c a = false := by simpa using g
    refine (congrArg (fun b => DV.v (.bool b)) ?_ : _ = _)
    simp [g, pickB]

abbrev bestSt (L : List DV) (gi gb : Nat) (ci cb : List DV) (n : Nat) (o : Int) (e : Nat) : St :=
  ⟨[(0, ⟨[], .pt L 0⟩), (1, ⟨[], .fn gi [] ci⟩), (2, ⟨[], .fn gb [] cb⟩), (7, ⟨[], .v (.int .i64 o)⟩), (14, ⟨[], .v (.int .i64 n)⟩), (15, ⟨[], .v (.int .i64 e)⟩)], [], []⟩
abbrev best2St (L : List DV) (gi gb : Nat) (ci cb : List DV) (n : Nat) (o : Int) (e : Nat) : St :=
  ⟨[(0, ⟨[], .pt L 0⟩), (1, ⟨[], .fn gi [] ci⟩), (2, ⟨[], .fn gb [] cb⟩), (7, ⟨[], .v (.int .i64 o)⟩), (37, ⟨[], .v (.int .i64 n)⟩), (38, ⟨[], .v (.int .i64 e)⟩)], [], []⟩

theorem best_spec (names : List ByteArray) (tb lq : DV) (js : List Int) (gi gb : Nat) (hei : Enters Tryz.prog gi) (heb : Enters Tryz.prog gb) (ci cb : List DV) (pin : Nat → Bool) (pb : Nat → Nat → Bool)
    (hcci : CcL [] 0 0 0 ci ci) (hccb : CcL [] 0 0 0 cb cb) (hcli : clB.clL 0 0 ci = true) (hclb : clB.clL 0 0 cb = true) (hn : names.length ≤ 64)
    (hin : ∀ c : Nat, c < names.length → EvP Tryz.prog gi (.v (.int .i64 c) :: ci) (.v (.bool (pin c))))
    (hpb : ∀ a b : Nat, a < names.length → b < names.length → EvP Tryz.prog gb (.v (.int .i64 a) :: .v (.int .i64 b) :: cb) (.v (.bool (pb a b)))) :
    EvP Tryz.prog 182 [.pt (dLt names tb lq js) 0, .fn gi [] ci, .fn gb [] cb] (.v (.int .i64 (oz (bestN pin pb names.length)))) := by
  have hN := dBs_len names
  have hfi : clB 0 0 (.fn gi [] ci) = true := by simp only [clB, Bool.and_eq_true]; exact ⟨rfl, hcli⟩
  have hfb : clB 0 0 (.fn gb [] cb) = true := by simp only [clB, Bool.and_eq_true]; exact ⟨rfl, hclb⟩
  refine ev_go (P := Tryz.prog) tt tt_ok 5000 57 [.tmp 6] Tryz.func182 rfl Tryz.ntmps182 rfl (Nat.le_of_ble_eq_true rfl) (fun E9 w9 hn9 hm9 => ?_)
  refine loop_i (fun j st => ∃ e : Nat, st = bestSt (dLt names tb lq js) gi gb ci cb (dBs names).length (oz (bestA pin pb e)) e ∧ e ≤ names.length ∧ j = names.length - e) names.length (bestSt (dLt names tb lq js) gi gb ci cb (dBs names).length (oz (bestA pin pb 0)) 0) (weak_mk ⟨_, rfl⟩ (by repeat' (first | exact rfl | exact we_rfl rfl | refine ⟨_, _, rfl, ?_, ?_⟩)) rfl rfl rfl (by repeat' (first | exact trivial | exact we_rfl rfl | exact we_rfl hfi | exact we_rfl hfb | refine ⟨⟨_, rfl, ?_⟩, ?_⟩))) ⟨0, rfl, by omega, by omega⟩ ?_
  rintro j st ⟨e, rfl, he, rfl⟩
  refine br (fun hL => ?_) (fun hL => ?_)
  · have hlt : e < names.length := by have := hL; simp [hN] at this; exact this
    have hs : bestA pin pb (e + 1) = if pin e && bestC pb e (bestA pin pb e) then some e else bestA pin pb e := rfl
    refine call_p hei (hin e hlt) ⟨_, _, rfl, rfl, hcci⟩ rfl ?_
    cases hA : bestA pin pb e with
    | none =>
      rw [hA] at hs
      refine br (fun g => ?_) (fun g => ?_)
      · have g : pin e = true := by simpa [lastG] using g
        have hz : (e : Int) = oz (bestA pin pb (e + 1)) := by rw [hs, g]; rfl
        exact ⟨bestSt (dLt names tb lq js) gi gb ci cb (dBs names).length (oz (bestA pin pb (e + 1))) (e + 1), (weak_mk ⟨_, rfl⟩ (by repeat' (first | exact rfl | exact we_rfl rfl | refine ⟨_, _, rfl, ?_, ?_⟩)) rfl rfl rfl (by repeat' (first | exact trivial | exact we_rfl rfl | exact we_rfl hfi | exact we_rfl hfb | exact we_int (nxt hlt (by omega)) | exact we_int hz | refine ⟨⟨_, rfl, ?_⟩, ?_⟩))), names.length - (e + 1), by omega, e + 1, rfl, by omega, rfl⟩
      · have g : pin e = false := by simpa [lastG] using g
        have hz : oz none = oz (bestA pin pb (e + 1)) := by rw [hs, g]; rfl
        exact ⟨bestSt (dLt names tb lq js) gi gb ci cb (dBs names).length (oz (bestA pin pb (e + 1))) (e + 1), (weak_mk ⟨_, rfl⟩ (by repeat' (first | exact rfl | exact we_rfl rfl | refine ⟨_, _, rfl, ?_, ?_⟩)) rfl rfl rfl (by repeat' (first | exact trivial | exact we_rfl rfl | exact we_rfl hfi | exact we_rfl hfb | exact we_int (nxt hlt (by omega)) | exact we_int hz | refine ⟨⟨_, rfl, ?_⟩, ?_⟩))), names.length - (e + 1), by omega, e + 1, rfl, by omega, rfl⟩
    | some k =>
      rw [hA] at hs
      have hk := bestA_lt hA
      refine br (fun g => ?_) (fun g => ?_)
      · have g : pin e = true := by simpa [lastG] using g
        refine call_p heb (hpb e k hlt (by omega)) ⟨_, _, rfl, rfl, _, _, rfl, rfl, hccb⟩ rfl ?_
        refine br (fun g2 => ?_) (fun g2 => ?_)
        · have g2 : pb e k = true := by simpa [pickB, g, lastG] using g2
          have hz : (e : Int) = oz (bestA pin pb (e + 1)) := by rw [hs, g, bestC, g2]; rfl
          exact ⟨bestSt (dLt names tb lq js) gi gb ci cb (dBs names).length (oz (bestA pin pb (e + 1))) (e + 1), (weak_mk ⟨_, rfl⟩ (by repeat' (first | exact rfl | exact we_rfl rfl | refine ⟨_, _, rfl, ?_, ?_⟩)) rfl rfl rfl (by repeat' (first | exact trivial | exact we_rfl rfl | exact we_rfl hfi | exact we_rfl hfb | exact we_int (nxt hlt (by omega)) | exact we_int hz | refine ⟨⟨_, rfl, ?_⟩, ?_⟩))), names.length - (e + 1), by omega, e + 1, rfl, by omega, rfl⟩
        · have g2 : pb e k = false := by simpa [pickB, g, lastG] using g2
          have hz : oz (some k) = oz (bestA pin pb (e + 1)) := by rw [hs, g, bestC, g2]; rfl
          exact ⟨bestSt (dLt names tb lq js) gi gb ci cb (dBs names).length (oz (bestA pin pb (e + 1))) (e + 1), (weak_mk ⟨_, rfl⟩ (by repeat' (first | exact rfl | exact we_rfl rfl | refine ⟨_, _, rfl, ?_, ?_⟩)) rfl rfl rfl (by repeat' (first | exact trivial | exact we_rfl rfl | exact we_rfl hfi | exact we_rfl hfb | exact we_int (nxt hlt (by omega)) | exact we_int hz | refine ⟨⟨_, rfl, ?_⟩, ?_⟩))), names.length - (e + 1), by omega, e + 1, rfl, by omega, rfl⟩
      · have g : pin e = false := by simpa [lastG] using g
        have hz : oz (some k) = oz (bestA pin pb (e + 1)) := by rw [hs, g]; rfl
        exact ⟨bestSt (dLt names tb lq js) gi gb ci cb (dBs names).length (oz (bestA pin pb (e + 1))) (e + 1), (weak_mk ⟨_, rfl⟩ (by repeat' (first | exact rfl | exact we_rfl rfl | refine ⟨_, _, rfl, ?_, ?_⟩)) rfl rfl rfl (by repeat' (first | exact trivial | exact we_rfl rfl | exact we_rfl hfi | exact we_rfl hfb | exact we_int (nxt hlt (by omega)) | exact we_int hz | refine ⟨⟨_, rfl, ?_⟩, ?_⟩))), names.length - (e + 1), by omega, e + 1, rfl, by omega, rfl⟩
  · have hge : e = names.length := by have := hL; simp [hN] at this; omega
    subst hge
    refine loop_i (fun j st => ∃ e : Nat, st = best2St (dLt names tb lq js) gi gb ci cb (dBs names).length (oz (bestA pin pb names.length)) e ∧ e ≤ names.length ∧ (∀ o, bestA pin pb names.length = some o → ∀ c, c < e → (pin c && !pb o c) = false) ∧ j = names.length - e) names.length (best2St (dLt names tb lq js) gi gb ci cb (dBs names).length (oz (bestA pin pb names.length)) 0) (weak_mk ⟨_, rfl⟩ (by repeat' (first | exact rfl | exact we_rfl rfl | refine ⟨_, _, rfl, ?_, ?_⟩)) rfl rfl rfl (by repeat' (first | exact trivial | exact we_rfl rfl | exact we_rfl hfi | exact we_rfl hfb | refine ⟨⟨_, rfl, ?_⟩, ?_⟩))) ⟨0, rfl, by omega, fun _ _ c hc => by omega, by omega⟩ ?_
    rintro j st ⟨e, rfl, he, hno, rfl⟩
    refine br (fun hL => ?_) (fun hL => ?_)
    · have hlt : e < names.length := by have := hL; simp [hN] at this; exact this
      cases hA : bestA pin pb names.length with
      | none =>
        exact ⟨best2St (dLt names tb lq js) gi gb ci cb (dBs names).length (oz none) (e + 1), (weak_mk ⟨_, rfl⟩ (by repeat' (first | exact rfl | exact we_rfl rfl | refine ⟨_, _, rfl, ?_, ?_⟩)) rfl rfl rfl (by repeat' (first | exact trivial | exact we_rfl rfl | exact we_rfl hfi | exact we_rfl hfb | exact we_int (nxt hlt (by omega)) | refine ⟨⟨_, rfl, ?_⟩, ?_⟩))), names.length - (e + 1), by omega, e + 1, rfl, by omega, (fun _ h => by cases h), rfl⟩
      | some o =>
        have ho := bestA_lt hA
        have hno := hno o hA
        refine call_p hei (hin e hlt) ⟨_, _, rfl, rfl, hcci⟩ rfl ?_
        refine br (fun g => ?_) (fun g => ?_)
        · have g : pin e = true := by simpa [pickB] using g
          refine call_p heb (hpb o e ho hlt) ⟨_, _, rfl, rfl, _, _, rfl, rfl, hccb⟩ rfl ?_
          refine br (fun g2 => ?_) (fun g2 => ?_)
          · have g2 : pb o e = false := by simpa [pickB, g, lastG] using g2
            have : bestN pin pb names.length = none := by
              rw [bestN, hA]
              simp only
              rw [if_pos]
              rw [List.any_eq_true]
              exact ⟨e, by simpa using hlt, by simp [g, g2]⟩
            rw [this]
            exact (rfl : _ = _)
          · have g2 : pb o e = true := by simpa [pickB, g, lastG] using g2
            exact ⟨best2St (dLt names tb lq js) gi gb ci cb (dBs names).length (oz (some o)) (e + 1), (weak_mk ⟨_, rfl⟩ (by repeat' (first | exact rfl | exact we_rfl rfl | refine ⟨_, _, rfl, ?_, ?_⟩)) rfl rfl rfl (by repeat' (first | exact trivial | exact we_rfl rfl | exact we_rfl hfi | exact we_rfl hfb | exact we_int (nxt hlt (by omega)) | refine ⟨⟨_, rfl, ?_⟩, ?_⟩))), names.length - (e + 1), by omega, e + 1, rfl, by omega, fun o' ho' c hc => by
              cases ho'
              rcases Nat.lt_succ_iff_lt_or_eq.1 hc with hc | rfl
              · exact hno c hc
              · simp [g2], rfl⟩
        · have g : pin e = false := by simpa [pickB] using g
          exact ⟨best2St (dLt names tb lq js) gi gb ci cb (dBs names).length (oz (some o)) (e + 1), (weak_mk ⟨_, rfl⟩ (by repeat' (first | exact rfl | exact we_rfl rfl | refine ⟨_, _, rfl, ?_, ?_⟩)) rfl rfl rfl (by repeat' (first | exact trivial | exact we_rfl rfl | exact we_rfl hfi | exact we_rfl hfb | exact we_int (nxt hlt (by omega)) | refine ⟨⟨_, rfl, ?_⟩, ?_⟩))), names.length - (e + 1), by omega, e + 1, rfl, by omega, fun o' ho' c hc => by
              cases ho'
              rcases Nat.lt_succ_iff_lt_or_eq.1 hc with hc | rfl
              · exact hno c hc
              · simp [g], rfl⟩
    · have hge : e = names.length := by have := hL; simp [hN] at this; omega
      subst hge
      have : bestN pin pb names.length = bestA pin pb names.length := by
        cases hA : bestA pin pb names.length with
        | none => rw [bestN, hA]
        | some o =>
          rw [bestN, hA]
          simp only
          rw [if_neg]
          rw [List.any_eq_true]
          rintro ⟨c, hc, h2⟩
          rw [hno o hA c (by simpa using hc)] at h2
          cases h2
      rw [this]
      exact (rfl : _ = _)
end Go.Proofs.YtmphiikdhifhjaaGreat
set_option maxRecDepth 100000
namespace Go.Proofs.YtmphiikdhifhjaaGreat
open Go Go.RowKit Dv Tryz

theorem ccL_cZ (js : List Int) (bx : List (List DV)) (N n m : Nat) : CcL bx N n m (cZ js) (cZ js) := by
  induction js with
  | nil => exact rfl
  | cons z r ih => exact ⟨_, _, rfl, rfl, ih⟩
theorem weL_cZ {n m : Nat} {tk : List TkE} (js : List Int) : WeL n m tk (cZ js) (cZ js) := weL_sc _ fun x hx => by
  obtain ⟨z, _, rfl⟩ := List.mem_map.1 hx
  exact ⟨_, rfl⟩
theorem ren_cZ (f : Nat → Nat) (js : List Int) : renL f (cZ js) = cZ js := by
  induction js with
  | nil => rfl
  | cons z r ih => simp only [cZ, List.map_cons, renL, renD] at ih ⊢; rw [ih]
theorem cZ_len (js : List Int) : (cZ js).length = js.length := by simp [cZ]
theorem cZ_set (js : List Int) (i : Nat) (z : Int) : (cZ js).set i (.v (.int .i64 z)) = cZ (js.set i z) := by simp [cZ, List.map_set]

abbrev dLs (names : List ByteArray) (tc : List DV) (rows : List Nat) (js : List Int) : List DV := dLt names (.pt tc 0) (dRel rows) js
theorem dLs_len (names : List ByteArray) (tc : List DV) (rows : List Nat) (js : List Int) : (dLs names tc rows js).length = js.length + 3 := by simp [dLt, cZ]
theorem dLs_set {names : List ByteArray} {tc : List DV} {rows : List Nat} {js : List Int} {i k : Nat} {z : Int} (h : k = i + 3) : (dLs names tc rows js).set k (.v (.int .i64 z)) = dLs names tc rows (js.set i z) := by
  subst h
  simp only [dLt, List.set_cons_succ, cZ_set]
theorem ren_dLs (f : Nat → Nat) (names : List ByteArray) (tc : List DV) (rows : List Nat) (js : List Int) : renL f (dLs names tc rows js) = dLs names tc rows js := by
  simp only [dLt, renL, ren_cZ]
  rfl

theorem weL_dLs {n m : Nat} {tk : List TkE} {l : List DV} {names : List ByteArray} {tc : List DV} {rows : List Nat} {js : List Int} (h : l = dLs names tc rows js) : WeL n m tk l (dLs names tc rows js) := by
  subst h
  exact ⟨_, _, rfl, we_rfl rfl, _, _, rfl, we_rfl rfl, _, _, rfl, we_rfl rfl, weL_cZ js⟩

/-- Joins and meets, by what is at most what. -/
def joinN (f : Nat → Nat → Bool) (n a b : Nat) : Option Nat := bestN (fun c => f a c && f b c) f n
def meetN (f : Nat → Nat → Bool) (n a b : Nat) : Option Nat := bestN (fun c => f c a && f c b) (fun x y => f y x) n
theorem joinN_comm (f : Nat → Nat → Bool) (n a b : Nat) : joinN f n a b = joinN f n b a := by
  unfold joinN
  congr 1
  funext c
  exact Bool.and_comm _ _
theorem meetN_comm (f : Nat → Nat → Bool) (n a b : Nat) : meetN f n a b = meetN f n b a := by
  unfold meetN
  congr 1
  funext c
  exact Bool.and_comm _ _
/-- No join or no meet. -/
def lackB (f : Nat → Nat → Bool) (n a b : Nat) : Bool := (joinN f n a b).isNone || (meetN f n a b).isNone
def bndP (f : Nat → Nat → Bool) (n b : Nat) : Bool := (List.range (b + 1)).any fun a => lackB f n a b
def JM (f : Nat → Nat → Bool) (n : Nat) (js : List Int) (a b : Nat) : Prop := js[a * 32 + b]? = some (oz (joinN f n a b)) ∧ js[1024 + (a * 32 + b)]? = some (oz (meetN f n a b))
def set4 (js : List Int) (a b : Nat) (j m : Int) : List Int := (((js.set (a * 32 + b) j).set (b * 32 + a) j).set (1024 + (a * 32 + b)) m).set (1024 + (b * 32 + a)) m
theorem set4_len (js : List Int) (a b : Nat) (j m : Int) : (set4 js a b j m).length = js.length := by simp [set4]
theorem get_set_ne {js : List Int} {i k : Nat} {z : Int} (h : k ≠ i) : (js.set k z)[i]? = js[i]? := List.getElem?_set_ne h
theorem set4_jm {f : Nat → Nat → Bool} {n : Nat} {js : List Int} (hl : js.length = 2048) {a b : Nat} (ha : a < 32) (hb : b < 32) {x y : Nat} (hx : x < 32) (hy : y < 32)
    (h : JM f n js x y ∨ (x = a ∧ y = b) ∨ (x = b ∧ y = a)) : JM f n (set4 js a b (oz (joinN f n a b)) (oz (meetN f n a b))) x y := by
  have key : (x = a ∧ y = b) ∨ (x = b ∧ y = a) ∨ (JM f n js x y ∧ ¬ (x = a ∧ y = b) ∧ ¬ (x = b ∧ y = a)) := by
    by_cases h1 : x = a ∧ y = b
    · exact .inl h1
    · by_cases h2 : x = b ∧ y = a
      · exact .inr (.inl h2)
      · rcases h with h | h | h
        · exact .inr (.inr ⟨h, h1, h2⟩)
        · exact (h1 h).elim
        · exact (h2 h).elim
  rcases key with ⟨rfl, rfl⟩ | ⟨rfl, rfl⟩ | ⟨h, h1, h2⟩
  · unfold JM set4
    refine ⟨?_, ?_⟩
    · rw [get_set_ne (by omega), get_set_ne (by omega)]
      by_cases hxy : x = y
      · subst hxy
        rw [List.getElem?_set_self (by simp; omega)]
      · rw [get_set_ne (by omega), List.getElem?_set_self (by omega)]
    · by_cases hxy : x = y
      · subst hxy
        rw [List.getElem?_set_self (by simp; omega)]
      · rw [get_set_ne (by omega), List.getElem?_set_self (by simp; omega)]
  · unfold JM set4
    rw [joinN_comm f n x y, meetN_comm f n x y]
    refine ⟨?_, ?_⟩
    · rw [get_set_ne (by omega), get_set_ne (by omega), List.getElem?_set_self (by simp; omega)]
    · rw [List.getElem?_set_self (by simp; omega)]
  · unfold JM set4
    have g1 : a * 32 + b ≠ x * 32 + y := fun he => h1 ⟨by omega, by omega⟩
    have g2 : b * 32 + a ≠ x * 32 + y := fun he => h2 ⟨by omega, by omega⟩
    refine ⟨?_, ?_⟩
    · rw [get_set_ne (by omega), get_set_ne (by omega), get_set_ne g2, get_set_ne g1]
      exact h.1
    · rw [get_set_ne (by omega), get_set_ne (by omega), get_set_ne (by omega), get_set_ne (by omega)]
      exact h.2

abbrev bndSt (names : List ByteArray) (tc : List DV) (rows : List Nat) (js : List Int) (e : Nat) : St :=
  ⟨[(1, ⟨[], .loc 1 0⟩), (3, ⟨[], .loc 2 0⟩), (4, ⟨[], .loc 3 0⟩), (15, ⟨[], .v (.int .i64 (dBs names).length)⟩), (16, ⟨[], .v (.int .i64 e)⟩)],
   [dLs names tc rows js, [.loc 0 0], [.fn 179 [] [.loc 1 0]], [.fn 181 [] [.loc 1 0]]], []⟩
abbrev bnd2St (names : List ByteArray) (tc : List DV) (rows : List Nat) (js : List Int) (e f : Nat) : St :=
  ⟨[(1, ⟨[], .loc 1 0⟩), (3, ⟨[], .loc 2 0⟩), (4, ⟨[], .loc 3 0⟩), (15, ⟨[], .v (.int .i64 (dBs names).length)⟩), (16, ⟨[], .v (.int .i64 e)⟩), (5, ⟨[], .loc 4 0⟩), (6, ⟨[], .loc 5 0⟩)],
   [dLs names tc rows js, [.loc 0 0], [.fn 179 [] [.loc 1 0]], [.fn 181 [] [.loc 1 0]], [.v (.int .i64 e)], [.v (.int .i64 f)]], []⟩

abbrev bnd3St (names : List ByteArray) (tc : List DV) (rows : List Nat) (js : List Int) (e f : Nat) : St :=
  ⟨[(1, ⟨[], .loc 1 0⟩), (3, ⟨[], .loc 2 0⟩), (4, ⟨[], .loc 3 0⟩), (15, ⟨[], .v (.int .i64 (dBs names).length)⟩), (16, ⟨[], .v (.int .i64 e)⟩), (5, ⟨[], .loc 4 0⟩), (6, ⟨[], .loc 6 0⟩)],
   [dLs names tc rows js, [.loc 0 0], [.fn 179 [] [.loc 1 0]], [.fn 181 [] [.loc 1 0]], [.v (.int .i64 e)], [.v (.int .i64 f)], [.v (.int .i64 (f + 1 : Nat))]], []⟩
abbrev bnd4St (names : List ByteArray) (tc : List DV) (rows : List Nat) (js : List Int) (e f : Nat) : St :=
  ⟨[(1, ⟨[], .loc 1 0⟩), (3, ⟨[], .loc 2 0⟩), (4, ⟨[], .loc 3 0⟩), (15, ⟨[], .v (.int .i64 (dBs names).length)⟩), (16, ⟨[], .v (.int .i64 e)⟩), (5, ⟨[], .loc 4 0⟩), (6, ⟨[], .loc 5 0⟩)],
   [dLs names tc rows js, [.loc 0 0], [.fn 179 [] [.loc 1 0]], [.fn 181 [] [.loc 1 0]], [.v (.int .i64 e)], [.v (.int .i64 (f + 1 : Nat))], [.v (.int .i64 f)]], []⟩
theorem bnd_ren (names : List ByteArray) (tc : List DV) (rows : List Nat) (js : List Int) (e f : Nat) : bnd3St names tc rows js e f = renSt 5 6 (bnd4St names tc rows js e f) := by
  simp only [renSt, renO, ren_dLs]
  rfl

def BndΦ (names : List ByteArray) (tc : List DV) (rows : List Nat) (r : DV) (os : List (List DV)) (_ : List TkE) : Prop :=
  ∃ js', os = [dLs names tc rows js'] ∧ js'.length = 2048 ∧ r = .v (.int .i64 (oz (firstN (bndP (bitB rows) names.length) names.length))) ∧
    (firstN (bndP (bitB rows) names.length) names.length = none → ∀ x y, x < names.length → y < names.length → JM (bitB rows) names.length js' x y)

theorem bounds_spec (names : List ByteArray) (tc : List DV) (rows : List Nat) (js : List Int) (hr : RelOK rows) (hlen : rows.length = names.length) (hn : names.length ≤ 32) (hj : js.length = 2048) :
    Ev Tryz.prog 146 [.loc 0 0] [dLs names tc rows js] [] (BndΦ names tc rows) := by
  have hN := dBs_len names
  refine ev_go (P := Tryz.prog) tt tt_ok 5000 73 [.tmp 2] Tryz.func146 rfl Tryz.ntmps146 rfl (Nat.le_of_ble_eq_true rfl) (fun E9 w9 hn9 hm9 => ?_)
  refine loop_i (fun j st => ∃ (e : Nat) (js : List Int), st = bndSt names tc rows js e ∧ e ≤ names.length ∧ js.length = 2048 ∧ (∀ b, b < e → bndP (bitB rows) names.length b = false) ∧ (∀ x y, x < e → y < e → JM (bitB rows) names.length js x y) ∧ j = names.length - e) names.length (bndSt names tc rows js 0) (weak_b 4 rfl (by repeat' (first | exact rfl | exact we_rfl rfl | exact weL_cZ _ | refine ⟨_, _, rfl, ?_, ?_⟩)) rfl rfl rfl (by repeat' (first | exact trivial | exact we_rfl rfl | exact weL_cZ _ | refine ⟨⟨_, rfl, ?_⟩, ?_⟩))) ⟨0, js, rfl, by omega, hj, fun _ h => by omega, fun _ _ h => by omega, by omega⟩ ?_
  rintro j st ⟨e, js, rfl, he, hj, hno, hjm, rfl⟩
  refine br (fun hL => ?_) (fun hL => ?_)
  · have hlt : e < names.length := by have := hL; simp [hN] at this; exact this
    refine loop_w (fun j st => ∃ (f : Nat) (js : List Int), st = bnd2St names tc rows js e f ∧ f ≤ e + 1 ∧ js.length = 2048 ∧ (∀ a, a < f → lackB (bitB rows) names.length a e = false) ∧ (∀ x y, x < e → y < e → JM (bitB rows) names.length js x y) ∧ (∀ x, x < f → JM (bitB rows) names.length js x e ∧ JM (bitB rows) names.length js e x) ∧ j = e + 1 - f) (e + 1) (bnd2St names tc rows js e 0) (.weak (weak_b 6 rfl (by repeat' (first | exact rfl | exact we_rfl rfl | exact weL_cZ _ | refine ⟨_, _, rfl, ?_, ?_⟩)) rfl rfl rfl (by repeat' (first | exact trivial | exact we_rfl rfl | exact weL_cZ _ | refine ⟨⟨_, rfl, ?_⟩, ?_⟩)))) ⟨0, js, rfl, by omega, hj, fun _ h => by omega, hjm, fun _ h => by omega, by omega⟩ ?_
    clear hjm hj
    rintro j st ⟨f, js, rfl, hf, hj, hla, hjm, hje, rfl⟩
    refine br (fun hL2 => ?_) (fun hL2 => ?_)
    · have hfe : f ≤ e := by have := hL2; simp at this; exact this
      have hb1 := best_spec names (.pt tc 0) (dRel rows) js 183 179 (enters_of Tryz.func183 (by decide +kernel) rfl) (enters_of Tryz.func179 (by decide +kernel) rfl)
        [.pt [bnd1F (dLs names tc rows js)] 0, .pt [.v (.int .i64 f)] 0, .pt [.v (.int .i64 e)] 0] [.pt [.pt (dLs names tc rows js) 0] 0] (fun c => bitB rows f c && bitB rows e c) (bitB rows) (by repeat' (first | exact rfl | exact trivial | exact Or.inr (Or.inl ⟨_, rfl⟩) | exact Or.inr ⟨_, rfl⟩ | exact Or.inl ⟨rfl, rfl⟩ | exact Or.inl rfl | refine Or.inr ⟨_, _, rfl, Nat.zero_le _, rfl, ?_⟩ | refine ⟨_, _, rfl, ?_, ?_⟩ | refine ⟨_, rfl, ?_⟩ | refine Or.inr (Or.inr (Or.inr ⟨_, _, rfl, ?_⟩)) | exact Or.inl rfl | refine Or.inr ?_)) (by repeat' (first | exact rfl | exact trivial | exact Or.inr (Or.inl ⟨_, rfl⟩) | exact Or.inr ⟨_, rfl⟩ | exact Or.inl ⟨rfl, rfl⟩ | exact Or.inl rfl | refine Or.inr ⟨_, _, rfl, Nat.zero_le _, rfl, ?_⟩ | refine ⟨_, _, rfl, ?_, ?_⟩ | refine ⟨_, rfl, ?_⟩ | refine Or.inr (Or.inr (Or.inr ⟨_, _, rfl, ?_⟩)) | exact Or.inl rfl | refine Or.inr ?_)) rfl rfl (by omega)
        (fun c hc => bnd3_spec names (.pt tc 0) rows js hr f e c (by omega) (by omega) (by omega)) (fun a b ha hb => bnd1_spec names (.pt tc 0) rows js hr a b (by omega) (by omega))
      have hb2 := best_spec names (.pt tc 0) (dRel rows) js 184 181 (enters_of Tryz.func184 (by decide +kernel) rfl) (enters_of Tryz.func181 (by decide +kernel) rfl)
        [.pt [bnd2F (dLs names tc rows js)] 0, .pt [.v (.int .i64 f)] 0, .pt [.v (.int .i64 e)] 0] [.pt [.pt (dLs names tc rows js) 0] 0] (fun c => bitB rows c f && bitB rows c e) (fun x y => bitB rows y x) (by repeat' (first | exact rfl | exact trivial | exact Or.inr (Or.inl ⟨_, rfl⟩) | exact Or.inr ⟨_, rfl⟩ | exact Or.inl ⟨rfl, rfl⟩ | exact Or.inl rfl | refine Or.inr ⟨_, _, rfl, Nat.zero_le _, rfl, ?_⟩ | refine ⟨_, _, rfl, ?_, ?_⟩ | refine ⟨_, rfl, ?_⟩ | refine Or.inr (Or.inr (Or.inr ⟨_, _, rfl, ?_⟩)) | exact Or.inl rfl | refine Or.inr ?_)) (by repeat' (first | exact rfl | exact trivial | exact Or.inr (Or.inl ⟨_, rfl⟩) | exact Or.inr ⟨_, rfl⟩ | exact Or.inl ⟨rfl, rfl⟩ | exact Or.inl rfl | refine Or.inr ⟨_, _, rfl, Nat.zero_le _, rfl, ?_⟩ | refine ⟨_, _, rfl, ?_, ?_⟩ | refine ⟨_, rfl, ?_⟩ | refine Or.inr (Or.inr (Or.inr ⟨_, _, rfl, ?_⟩)) | exact Or.inl rfl | refine Or.inr ?_)) rfl rfl (by omega)
        (fun c hc => bnd4_spec names (.pt tc 0) rows js hr f e c (by omega) (by omega) (by omega)) (fun a b ha hb => bnd2_spec names (.pt tc 0) rows js hr a b (by omega) (by omega))
      refine call_b (enters_of Tryz.func182 (by decide +kernel) rfl) hb1 (by repeat' (first | exact rfl | exact trivial | exact Or.inr (Or.inl ⟨_, rfl⟩) | exact Or.inr ⟨_, rfl⟩ | exact Or.inl ⟨rfl, rfl⟩ | exact Or.inl rfl | refine Or.inr ⟨_, _, rfl, Nat.zero_le _, rfl, ?_⟩ | refine ⟨_, _, rfl, ?_, ?_⟩ | refine ⟨_, rfl, ?_⟩ | exact ccL_cZ _ _ _ _ _ | refine Or.inr (Or.inr (Or.inr ⟨_, _, rfl, ?_⟩)) | exact Or.inl rfl | refine Or.inr ?_)) rfl ?_
      refine call_b (enters_of Tryz.func182 (by decide +kernel) rfl) hb2 (by repeat' (first | exact rfl | exact trivial | exact Or.inr (Or.inl ⟨_, rfl⟩) | exact Or.inr ⟨_, rfl⟩ | exact Or.inl ⟨rfl, rfl⟩ | exact Or.inl rfl | refine Or.inr ⟨_, _, rfl, Nat.zero_le _, rfl, ?_⟩ | refine ⟨_, _, rfl, ?_, ?_⟩ | refine ⟨_, rfl, ?_⟩ | exact ccL_cZ _ _ _ _ _ | refine Or.inr (Or.inr (Or.inr ⟨_, _, rfl, ?_⟩)) | exact Or.inl rfl | refine Or.inr ?_)) rfl ?_
      have hlk : pickB (decide (oz (joinN (bitB rows) names.length f e) = -1)) true (decide (oz (meetN (bitB rows) names.length f e) = -1)) = lackB (bitB rows) names.length f e := by
        unfold lackB
        cases joinN (bitB rows) names.length f e with
        | none => rfl
        | some j =>
          have : decide (oz (some j) = -1) = false := by simp [oz]
          rw [this]
          cases meetN (bitB rows) names.length f e with
          | none => rfl
          | some m =>
            have : decide (oz (some m) = -1) = false := by simp [oz]
            rw [this]
            rfl
      refine br (fun g => ?_) (fun g => ?_)
      · have g : lackB (bitB rows) names.length f e = true := hlk.symm.trans g
        have hb : bndP (bitB rows) names.length e = true := by
          unfold bndP
          rw [List.any_eq_true]
          exact ⟨f, by simp; omega, g⟩
        have hfn := firstN_some (p := bndP (bitB rows) names.length) hlt hb hno
        refine ⟨.v (.int .i64 e), [dLs names tc rows js], (by repeat' (first | exact rfl | exact trivial | exact Or.inr (Or.inl ⟨_, rfl⟩) | exact Or.inr ⟨_, rfl⟩ | exact Or.inl ⟨rfl, rfl⟩ | exact Or.inl rfl | refine Or.inr ⟨_, _, rfl, Nat.zero_le _, rfl, ?_⟩ | refine ⟨_, _, rfl, ?_, ?_⟩ | refine ⟨_, rfl, ?_⟩ | refine Or.inr (Or.inr (Or.inr ⟨_, _, rfl, ?_⟩)) | exact Or.inl rfl | refine Or.inr ?_)), (by repeat' (first | exact rfl | exact trivial | exact Or.inr (Or.inl ⟨_, rfl⟩) | exact Or.inr ⟨_, rfl⟩ | exact Or.inl ⟨rfl, rfl⟩ | exact Or.inl rfl | refine Or.inr ⟨_, _, rfl, Nat.zero_le _, rfl, ?_⟩ | refine ⟨_, _, rfl, ?_, ?_⟩ | refine ⟨_, rfl, ?_⟩ | exact ccL_cZ _ _ _ _ _ | refine Or.inr (Or.inr (Or.inr ⟨_, _, rfl, ?_⟩)) | exact Or.inl rfl | refine Or.inr ?_)), js, rfl, hj, ?_, fun h => by rw [hfn] at h; cases h⟩
        rw [hfn]
        rfl
      · have g : lackB (bitB rows) names.length f e = false := hlk.symm.trans g
        refine drawG_m [0] (fun _ => false) mo (by decide +kernel) ?_
        have hdl := dLs_len names tc rows js
        refine ⟨⟨by omega, by omega⟩, ?_⟩
        refine ⟨⟨by omega, by omega⟩, ?_⟩
        refine ⟨by rw [hdl]; omega, ?_⟩
        refine ⟨⟨by omega, by omega⟩, ?_⟩
        refine ⟨⟨by omega, by omega⟩, ?_⟩
        refine ⟨by rw [List.length_set, hdl]; omega, ?_⟩
        refine drawG_m [0] (fun _ => false) mo (by decide +kernel) ?_
        refine ⟨⟨by omega, by omega⟩, ?_⟩
        refine ⟨⟨by omega, by omega⟩, ?_⟩
        refine ⟨by rw [List.length_set, List.length_set, hdl]; omega, ?_⟩
        refine ⟨⟨by omega, by omega⟩, ?_⟩
        refine ⟨⟨by omega, by omega⟩, ?_⟩
        refine ⟨by rw [List.length_set, List.length_set, List.length_set, hdl]; omega, ?_⟩
        have hb0 : ((((dLs names tc rows js).set (0 + 0 + 3 + (f : Int).toNat * 32 + (e : Int).toNat * 1) (DV.v (.int .i64 (oz (joinN (bitB rows) names.length f e))))).set (0 + 0 + 3 + (e : Int).toNat * 32 + (f : Int).toNat * 1) (DV.v (.int .i64 (oz (joinN (bitB rows) names.length f e))))).set (0 + 0 + 1027 + (f : Int).toNat * 32 + (e : Int).toNat * 1) (DV.v (.int .i64 (oz (meetN (bitB rows) names.length f e))))).set (0 + 0 + 1027 + (e : Int).toNat * 32 + (f : Int).toNat * 1) (DV.v (.int .i64 (oz (meetN (bitB rows) names.length f e)))) = dLs names tc rows (set4 js f e (oz (joinN (bitB rows) names.length f e)) (oz (meetN (bitB rows) names.length f e))) := by
          rw [dLs_set (i := f * 32 + e) (by omega), dLs_set (i := e * 32 + f) (by omega), dLs_set (i := 1024 + (f * 32 + e)) (by omega), dLs_set (i := 1024 + (e * 32 + f)) (by omega)]
          rfl
        refine ⟨bnd2St names tc rows (set4 js f e (oz (joinN (bitB rows) names.length f e)) (oz (meetN (bitB rows) names.length f e))) e (f + 1),
          .trans (.weak (s2 := bnd3St names tc rows (set4 js f e (oz (joinN (bitB rows) names.length f e)) (oz (meetN (bitB rows) names.length f e))) e f) (weak_b 7 rfl (by repeat' (first | exact rfl | exact we_rfl rfl | exact weL_dLs hb0 | exact we_int (nxt (n := e + 1) (by omega) (by omega)) | refine ⟨_, _, rfl, ?_, ?_⟩)) rfl rfl rfl (by repeat' (first | exact trivial | exact we_rfl rfl | exact weL_dLs hb0 | exact we_int (nxt (n := e + 1) (by omega) (by omega)) | refine ⟨⟨_, rfl, ?_⟩, ?_⟩))))
            (.trans (.ren 5 6 (bnd4St names tc rows (set4 js f e (oz (joinN (bitB rows) names.length f e)) (oz (meetN (bitB rows) names.length f e))) e f) _ (bnd_ren _ _ _ _ _ _) rfl rfl rfl rfl) (.weak (weak_b 6 rfl (by repeat' (first | exact rfl | exact we_rfl rfl | exact weL_cZ _ | refine ⟨_, _, rfl, ?_, ?_⟩)) rfl rfl rfl (by repeat' (first | exact trivial | exact we_rfl rfl | exact weL_cZ _ | refine ⟨⟨_, rfl, ?_⟩, ?_⟩))))),
          e + 1 - (f + 1), by omega, f + 1, _, rfl, by omega, by rw [set4_len]; exact hj, fun a ha => ?_, fun x y hx hy => ?_, fun x hx => ?_, rfl⟩
        · rcases Nat.lt_succ_iff_lt_or_eq.1 ha with ha | rfl
          · exact hla a ha
          · exact g
        · exact set4_jm hj (by omega) (by omega) (by omega) (by omega) (.inl (hjm x y hx hy))
        · rcases Nat.lt_succ_iff_lt_or_eq.1 hx with hx | rfl
          · exact ⟨set4_jm hj (by omega) (by omega) (by omega) (by omega) (.inl (hje x hx).1), set4_jm hj (by omega) (by omega) (by omega) (by omega) (.inl (hje x hx).2)⟩
          · exact ⟨set4_jm hj (by omega) (by omega) (by omega) (by omega) (.inr (.inl ⟨rfl, rfl⟩)), set4_jm hj (by omega) (by omega) (by omega) (by omega) (.inr (.inr ⟨rfl, rfl⟩))⟩
    · have hfe : f = e + 1 := by have := hL2; simp at this; omega
      subst hfe
      have hb : bndP (bitB rows) names.length e = false := by
        unfold bndP
        rw [List.any_eq_false]
        intro a ha
        rw [hla a (by simpa using ha)]
        decide
      refine ⟨bndSt names tc rows js (e + 1), (weak_b 4 rfl (by repeat' (first | exact rfl | exact we_rfl rfl | exact weL_cZ _ | exact we_int (nxt hlt (by omega)) | refine ⟨_, _, rfl, ?_, ?_⟩)) rfl rfl rfl (by repeat' (first | exact trivial | exact we_rfl rfl | exact weL_cZ _ | exact we_int (nxt hlt (by omega)) | refine ⟨⟨_, rfl, ?_⟩, ?_⟩))), names.length - (e + 1), by omega, e + 1, js, rfl, by omega, hj, fun b hb' => ?_, fun x y hx hy => ?_, rfl⟩
      · rcases Nat.lt_succ_iff_lt_or_eq.1 hb' with h | rfl
        · exact hno b h
        · exact hb
      · rcases Nat.lt_succ_iff_lt_or_eq.1 hx with hx | rfl
        · rcases Nat.lt_succ_iff_lt_or_eq.1 hy with hy | rfl
          · exact hjm x y hx hy
          · exact (hje x (by omega)).1
        · exact (hje y (by omega)).2
  · have hge : e = names.length := by have := hL; simp [hN] at this; omega
    subst hge
    refine ⟨.v (.int .i64 (-1)), [dLs names tc rows js], (by repeat' (first | exact rfl | exact trivial | exact Or.inr (Or.inl ⟨_, rfl⟩) | exact Or.inr ⟨_, rfl⟩ | exact Or.inl ⟨rfl, rfl⟩ | exact Or.inl rfl | refine Or.inr ⟨_, _, rfl, Nat.zero_le _, rfl, ?_⟩ | refine ⟨_, _, rfl, ?_, ?_⟩ | refine ⟨_, rfl, ?_⟩ | refine Or.inr (Or.inr (Or.inr ⟨_, _, rfl, ?_⟩)) | exact Or.inl rfl | refine Or.inr ?_)), (by repeat' (first | exact rfl | exact trivial | exact Or.inr (Or.inl ⟨_, rfl⟩) | exact Or.inr ⟨_, rfl⟩ | exact Or.inl ⟨rfl, rfl⟩ | exact Or.inl rfl | refine Or.inr ⟨_, _, rfl, Nat.zero_le _, rfl, ?_⟩ | refine ⟨_, _, rfl, ?_, ?_⟩ | refine ⟨_, rfl, ?_⟩ | exact ccL_cZ _ _ _ _ _ | refine Or.inr (Or.inr (Or.inr ⟨_, _, rfl, ?_⟩)) | exact Or.inl rfl | refine Or.inr ?_)), js, rfl, hj, ?_, fun _ => hjm⟩
    rw [firstN_none hno]
    rfl
end Go.Proofs.YtmphiikdhifhjaaGreat
set_option maxRecDepth 100000
namespace Go.Proofs.YtmphiikdhifhjaaGreat
open Go Go.RowKit Dv Tryz

def atN (l : List Wd) (k : Nat) : Int := ((l[k]?).getD (⟨emptyB, 0⟩ : Wd)).a
/-- What is wrong with levels. -/
def latF (l : List Wd) (o : List (Wd × Wd)) : Ft :=
  if (manyF l o).1 ≠ 0 then manyF l o
  else if (enumL l 0 l).1 ≠ 0 then enumL l 0 l
  else if (numF (nmTx l) o).1 ≠ 0 then numF (nmTx l) o
  else match firstN (loopP l.length (leqN l.length (numL (nmTx l) o))) l.length with
    | some a => (11, atN l a)
    | none =>
      match firstN (bndP (leqN l.length (numL (nmTx l) o)) l.length) l.length with
      | some b => (12, atN l b)
      | none => (0, 0)

/-- A lattice of levels. -/
def LatD (l : List Wd) (o : List (Wd × Wd)) (d : DV) : Prop :=
  ∃ ord js, TblOK (nmTx l) ord ∧ ord.length ≤ l.length ∧ js.length = 2048 ∧ (∀ x y, x < l.length → y < l.length → JM (leqN l.length (numL (nmTx l) o)) l.length js x y) ∧
    d = .pt (dLs (nmTx l) (dTbl (nmTx l) ord) (closeR (relN l.length (numL (nmTx l) o)) l.length) js) 0
def LatΦ (l : List Wd) (o : List (Wd × Wd)) (r : DV) (_ : List (List DV)) (_ : List TkE) : Prop :=
  if (latF l o).1 ≠ 0 then r = .tup [.v (.pointer none), (latF l o).d] else ∃ d, LatD l o d ∧ r = .tup [d, (latF l o).d]

theorem numF_ok {L : List ByteArray} : ∀ {o : List (Wd × Wd)}, (numF L o).1 = 0 → PrOK L.length (numL L o)
  | [], _ => by intro p hp; simp [numL] at hp
  | q :: r, h => by
    rw [numF] at h
    split at h
    · cases h
    · rename_i h1
      split at h
      · cases h
      · rename_i h2
        have ih := numF_ok (o := r) h
        intro p hp
        simp only [numL, List.map_cons, List.mem_cons] at hp
        rcases hp with rfl | hp
        · obtain ⟨a, ha⟩ := Option.ne_none_iff_exists'.1 h1
          obtain ⟨b, hb⟩ := Option.ne_none_iff_exists'.1 h2
          simp only [numP, ha, hb, Option.getD_some]
          exact ⟨(ixOf_some ha).1, (ixOf_some hb).1⟩
        · exact ih p hp
theorem nmTx_len (l : List Wd) : (nmTx l).length = l.length := by simp [nmTx]
theorem enumL_zero {all : List Wd} : ∀ {l : List Wd} {i : Nat}, (enumL all i l).1 = 0 → enumL all i l = (0, 0)
  | [], _, _ => rfl
  | x :: r, i, h => by
    rw [enumL] at h ⊢
    split at h
    · rename_i h1; exact (h1 h).elim
    · rename_i h1; rw [if_neg h1]; exact enumL_zero h
theorem numF_zero {L : List ByteArray} : ∀ {o : List (Wd × Wd)}, (numF L o).1 = 0 → numF L o = (0, 0)
  | [], _ => rfl
  | q :: r, h => by
    rw [numF] at h ⊢
    split at h
    · cases h
    · rename_i h1
      split at h
      · cases h
      · rename_i h2
        rw [if_neg h1, if_neg h2]
        exact numF_zero h
theorem atN_get {l : List Wd} {k : Nat} {w : Wd} (h : l[k]? = some w) : atN l k = w.a := by simp [atN, h]
theorem vL_rep (n : Nat) : vL (List.replicate n (.int .i64 0)) = cZ (List.replicate n 0) := by
  induction n with
  | zero => rfl
  | succ n ih => simp only [List.replicate_succ, vL, cZ, List.map_cons] at ih ⊢; rw [ih]

theorem latΦ_bad {l : List Wd} {o : List (Wd × Wd)} {f : Ft} {os : List (List DV)} {tk : List TkE} (h : latF l o = f) (hf : f.1 ≠ 0) : LatΦ l o (.tup [.v (.pointer none), f.d]) os tk := by
  unfold LatΦ
  rw [h, if_pos hf]
theorem latΦ_ok {l : List Wd} {o : List (Wd × Wd)} {d : DV} {os : List (List DV)} {tk : List TkE} (h : latF l o = (0, 0)) (hd : LatD l o d) : LatΦ l o (.tup [d, Ft.d (0, 0)]) os tk := by
  unfold LatΦ
  rw [h, if_neg (by simp)]
  exact ⟨d, hd, rfl⟩

theorem clL_dLs (n m : Nat) (names : List ByteArray) (tc : List DV) (rows : List Nat) (js : List Int) : clB.clL n m (dLs names tc rows js) = true := by
  have h : ∀ l : List Int, clB.clL n m (cZ l) = true := by
    intro l
    induction l with
    | nil => rfl
    | cons z r ih => simp only [cZ, List.map_cons, clB.clL, clB, Bool.true_and] at ih ⊢; exact ih
  simp only [dLt, clB.clL, clB, h, dRel, Bool.and_self]

theorem lbuild_spec (l : List Wd) (o : List (Wd × Wd)) (hs : wdsWt l ≤ 1099511627776) (hs2 : prsWt o ≤ 1099511627776) :
    Ev Tryz.prog 88 [.sl 2 (dWds l) none, .sl 4 (dPrs o) none] [] [] (LatΦ l o) := by
  have hsl := wdsWt_len l
  have hso := prsWt_len o
  have hnl := nmTx_len l
  have hF := latF.eq_1 l o
  refine ev_go (P := Tryz.prog) tt tt_ok 5000 86 [.tmp 4, .cell 5 33] Tryz.func88 rfl Tryz.ntmps88 rfl (Nat.le_of_ble_eq_true rfl) (fun E9 w9 hn9 hm9 => ?_)
  refine call_p (enters_of Tryz.func139 (by decide +kernel) rfl) (many_spec l o) (by repeat' (first | exact rfl | exact trivial | exact Or.inr (Or.inl ⟨_, rfl⟩) | exact Or.inr ⟨_, rfl⟩ | exact Or.inl ⟨rfl, rfl⟩ | exact Or.inl rfl | refine Or.inr ⟨_, _, rfl, Nat.zero_le _, rfl, ?_⟩ | refine ⟨_, _, rfl, ?_, ?_⟩ | refine ⟨_, rfl, ?_⟩ | refine Or.inr (Or.inr (Or.inr ⟨_, _, rfl, ?_⟩)) | exact Or.inl rfl | refine Or.inr ?_)) rfl ?_
  by_cases hm : (manyF l o).1 ≠ 0
  · rw [if_pos hm] at hF
    refine br (fun h => ?_) (fun h => ?_)
    · refine drawG_s mo (by decide +kernel) ?_
      exact ⟨_, (by repeat' (first | exact rfl | exact trivial | exact Or.inr (Or.inl ⟨_, rfl⟩) | exact Or.inr ⟨_, rfl⟩ | exact Or.inl ⟨rfl, rfl⟩ | exact Or.inl rfl | refine Or.inr ⟨_, _, rfl, Nat.zero_le _, rfl, ?_⟩ | refine ⟨_, _, rfl, ?_, ?_⟩ | refine ⟨_, rfl, ?_⟩ | refine Or.inr (Or.inr (Or.inr ⟨_, _, rfl, ?_⟩)) | exact Or.inl rfl | refine Or.inr ?_)), latΦ_bad (os := []) (tk := []) hF hm⟩
    · exfalso
      simp at h
      exact hm h
  rw [if_neg hm] at hF
  refine br (fun h => ?_) (fun _ => ?_)
  · exfalso
    simp at h
    exact hm h
  have hl0 : l ≠ [] := by
    rintro rfl
    simp [manyF] at hm
  have hl32 : l.length ≤ 32 := by
    rcases Nat.lt_or_ge 32 l.length with h | h
    · simp [manyF, hl0, h] at hm
    · exact h
  have hcal := called_spec l hs
  unfold calD at hcal
  by_cases hE : (enumL l 0 l).1 ≠ 0
  · rw [if_neg hE] at hcal
    rw [if_pos hE] at hF
    refine call_p (enters_of Tryz.func140 (by decide +kernel) rfl) (hcal) (by repeat' (first | exact rfl | exact trivial | exact Or.inr (Or.inl ⟨_, rfl⟩) | exact Or.inr ⟨_, rfl⟩ | exact Or.inl ⟨rfl, rfl⟩ | exact Or.inl rfl | refine Or.inr ⟨_, _, rfl, Nat.zero_le _, rfl, ?_⟩ | refine ⟨_, _, rfl, ?_, ?_⟩ | refine ⟨_, rfl, ?_⟩ | refine Or.inr (Or.inr (Or.inr ⟨_, _, rfl, ?_⟩)) | exact Or.inl rfl | refine Or.inr ?_)) rfl ?_
    refine br (fun h => ?_) (fun h => ?_)
    · refine drawG_s mo (by decide +kernel) ?_
      exact ⟨_, (by repeat' (first | exact rfl | exact trivial | exact Or.inr (Or.inl ⟨_, rfl⟩) | exact Or.inr ⟨_, rfl⟩ | exact Or.inl ⟨rfl, rfl⟩ | exact Or.inl rfl | refine Or.inr ⟨_, _, rfl, Nat.zero_le _, rfl, ?_⟩ | refine ⟨_, _, rfl, ?_, ?_⟩ | refine ⟨_, rfl, ?_⟩ | refine Or.inr (Or.inr (Or.inr ⟨_, _, rfl, ?_⟩)) | exact Or.inl rfl | refine Or.inr ?_)), latΦ_bad (os := []) (tk := []) hF hE⟩
    · exfalso
      simp at h
      exact hE h
  rw [if_neg hE] at hF
  have hE : (enumL l 0 l).1 = 0 := by simpa using hE
  rw [if_pos hE] at hcal
  rw [enumL_zero hE] at hcal
  refine call_p (enters_of Tryz.func140 (by decide +kernel) rfl) (hcal) (by repeat' (first | exact rfl | exact trivial | exact Or.inr (Or.inl ⟨_, rfl⟩) | exact Or.inr ⟨_, rfl⟩ | exact Or.inl ⟨rfl, rfl⟩ | exact Or.inl rfl | refine Or.inr ⟨_, _, rfl, Nat.zero_le _, rfl, ?_⟩ | refine ⟨_, _, rfl, ?_, ?_⟩ | refine ⟨_, rfl, ?_⟩ | refine Or.inr (Or.inr (Or.inr ⟨_, _, rfl, ?_⟩)) | exact Or.inl rfl | refine Or.inr ?_)) rfl ?_
  refine call_e (enters_of Tryz.func141 (by decide +kernel) rfl) rfl (new_spec (nmTx l) (by omega)) (by repeat' (first | exact rfl | exact trivial | exact Or.inr (Or.inl ⟨_, rfl⟩) | exact Or.inr ⟨_, rfl⟩ | exact Or.inl ⟨rfl, rfl⟩ | exact Or.inl rfl | refine Or.inr ⟨_, _, rfl, Nat.zero_le _, rfl, ?_⟩ | refine ⟨_, _, rfl, ?_, ?_⟩ | refine ⟨_, rfl, ?_⟩ | refine Or.inr (Or.inr (Or.inr ⟨_, _, rfl, ?_⟩)) | exact Or.inl rfl | refine Or.inr ?_)) (fun r hr => ?_)
  obtain ⟨ord, hT, hol, rfl⟩ := hr
  have hnum := numbered_spec (nmTx l) ord hT (by omega) o hs2
  unfold numD at hnum
  by_cases hN : (numF (nmTx l) o).1 ≠ 0
  · rw [if_neg hN] at hnum
    rw [if_pos hN] at hF
    refine call_p (enters_of Tryz.func142 (by decide +kernel) rfl) (hnum) (by repeat' (first | exact rfl | exact trivial | exact Or.inr (Or.inl ⟨_, rfl⟩) | exact Or.inr ⟨_, rfl⟩ | exact Or.inl ⟨rfl, rfl⟩ | exact Or.inl rfl | refine Or.inr ⟨_, _, rfl, Nat.zero_le _, rfl, ?_⟩ | refine ⟨_, _, rfl, ?_, ?_⟩ | refine ⟨_, rfl, ?_⟩ | refine Or.inr (Or.inr (Or.inr ⟨_, _, rfl, ?_⟩)) | exact Or.inl rfl | refine Or.inr ?_)) rfl ?_
    refine br (fun h => ?_) (fun h => ?_)
    · refine drawG_s mo (by decide +kernel) ?_
      exact ⟨_, (by repeat' (first | exact rfl | exact trivial | exact Or.inr (Or.inl ⟨_, rfl⟩) | exact Or.inr ⟨_, rfl⟩ | exact Or.inl ⟨rfl, rfl⟩ | exact Or.inl rfl | refine Or.inr ⟨_, _, rfl, Nat.zero_le _, rfl, ?_⟩ | refine ⟨_, _, rfl, ?_, ?_⟩ | refine ⟨_, rfl, ?_⟩ | refine Or.inr (Or.inr (Or.inr ⟨_, _, rfl, ?_⟩)) | exact Or.inl rfl | refine Or.inr ?_)), latΦ_bad (os := []) (tk := []) hF hN⟩
    · exfalso
      simp at h
      exact hN h
  rw [if_neg hN] at hF
  have hN : (numF (nmTx l) o).1 = 0 := by simpa using hN
  rw [if_pos hN] at hnum
  rw [numF_zero hN] at hnum
  have hP := numF_ok hN
  rw [hnl] at hP
  have hPl : (numL (nmTx l) o).length = o.length := by simp [numL]
  generalize hPP : numL (nmTx l) o = P at hnum hF hP hPl
  refine call_p (enters_of Tryz.func142 (by decide +kernel) rfl) (hnum) (by repeat' (first | exact rfl | exact trivial | exact Or.inr (Or.inl ⟨_, rfl⟩) | exact Or.inr ⟨_, rfl⟩ | exact Or.inl ⟨rfl, rfl⟩ | exact Or.inl rfl | refine Or.inr ⟨_, _, rfl, Nat.zero_le _, rfl, ?_⟩ | refine ⟨_, _, rfl, ?_, ?_⟩ | refine ⟨_, rfl, ?_⟩ | refine Or.inr (Or.inr (Or.inr ⟨_, _, rfl, ?_⟩)) | exact Or.inl rfl | refine Or.inr ?_)) rfl ?_
  have hLn : (dBs (nmTx l)).length = l.length := by rw [dBs_len, hnl]
  have hPb : P.length ≤ 1099511627776 := by omega
  have hro := relN_ok (n := l.length) (by omega) P hP
  have hrl := relN_len l.length P
  have hr0 : relN l.length P ≠ [] := fun h => hl0 (List.eq_nil_of_length_eq_zero (by rw [← hrl, h]; rfl))
  refine call_p (enters_of Tryz.func143 (by decide +kernel) rfl) (rnew_spec l.length (by omega) P hP hPb) (by repeat' (first | exact rfl | exact trivial | exact Or.inr (Or.inl ⟨_, rfl⟩) | exact Or.inr ⟨_, rfl⟩ | exact Or.inl ⟨rfl, rfl⟩ | exact Or.inl rfl | refine Or.inr ⟨_, _, rfl, Nat.zero_le _, rfl, ?_⟩ | refine ⟨_, _, rfl, ?_, ?_⟩ | refine ⟨_, rfl, ?_⟩ | exact congrArg (fun z => DV.v (.int .i64 z)) (congrArg Nat.cast hLn)| refine Or.inr (Or.inr (Or.inr ⟨_, _, rfl, ?_⟩)) | exact Or.inl rfl | refine Or.inr ?_)) rfl ?_
  have hlo := rloop_spec _ hro hr0
  rw [hrl, loop_eq (by omega) hP] at hlo
  cases hA : firstN (loopP l.length (leqN l.length P)) l.length with
  | some a =>
    rw [hA] at hlo hF
    simp only at hF
    have hal := (firstN_spec hA).1
    obtain ⟨w, hw⟩ : ∃ w, l[a]? = some w := ⟨_, List.getElem?_eq_getElem hal⟩
    rw [atN_get hw] at hF
    refine call_p (enters_of Tryz.func144 (by decide +kernel) rfl) (hlo) (by repeat' (first | exact rfl | exact trivial | exact Or.inr (Or.inl ⟨_, rfl⟩) | exact Or.inr ⟨_, rfl⟩ | exact Or.inl ⟨rfl, rfl⟩ | exact Or.inl rfl | refine Or.inr ⟨_, _, rfl, Nat.zero_le _, rfl, ?_⟩ | refine ⟨_, _, rfl, ?_, ?_⟩ | refine ⟨_, rfl, ?_⟩ | refine Or.inr (Or.inr (Or.inr ⟨_, _, rfl, ?_⟩)) | exact Or.inl rfl | refine Or.inr ?_)) rfl ?_
    refine drawG_s mo (by decide +kernel) ?_
    refine ⟨dWd w, ⟨by omega, dWds_get hw⟩, ?_⟩
    exact ⟨_, (by repeat' (first | exact rfl | exact trivial | exact Or.inr (Or.inl ⟨_, rfl⟩) | exact Or.inr ⟨_, rfl⟩ | exact Or.inl ⟨rfl, rfl⟩ | exact Or.inl rfl | refine Or.inr ⟨_, _, rfl, Nat.zero_le _, rfl, ?_⟩ | refine ⟨_, _, rfl, ?_, ?_⟩ | refine ⟨_, rfl, ?_⟩ | refine Or.inr (Or.inr (Or.inr ⟨_, _, rfl, ?_⟩)) | exact Or.inl rfl | refine Or.inr ?_)), latΦ_bad (os := []) (tk := []) hF (by simp)⟩
  | none =>
  rw [hA] at hlo hF
  simp only at hF
  refine call_p (enters_of Tryz.func144 (by decide +kernel) rfl) (hlo) (by repeat' (first | exact rfl | exact trivial | exact Or.inr (Or.inl ⟨_, rfl⟩) | exact Or.inr ⟨_, rfl⟩ | exact Or.inl ⟨rfl, rfl⟩ | exact Or.inl rfl | refine Or.inr ⟨_, _, rfl, Nat.zero_le _, rfl, ?_⟩ | refine ⟨_, _, rfl, ?_, ?_⟩ | refine ⟨_, rfl, ?_⟩ | refine Or.inr (Or.inr (Or.inr ⟨_, _, rfl, ?_⟩)) | exact Or.inl rfl | refine Or.inr ?_)) rfl ?_
  have hcl := rclose_spec _ hro hr0
  rw [hrl] at hcl
  have hcok := closeR_ok hro l.length (by omega)
  have hclen := closeR_len (relN l.length P) l.length
  rw [hrl] at hclen
  refine call_p (enters_of Tryz.func145 (by decide +kernel) rfl) (hcl) (by repeat' (first | exact rfl | exact trivial | exact Or.inr (Or.inl ⟨_, rfl⟩) | exact Or.inr ⟨_, rfl⟩ | exact Or.inl ⟨rfl, rfl⟩ | exact Or.inl rfl | refine Or.inr ⟨_, _, rfl, Nat.zero_le _, rfl, ?_⟩ | refine ⟨_, _, rfl, ?_, ?_⟩ | refine ⟨_, rfl, ?_⟩ | refine Or.inr (Or.inr (Or.inr ⟨_, _, rfl, ?_⟩)) | exact Or.inl rfl | refine Or.inr ?_)) rfl ?_
  have hrep : (List.replicate 2048 (0 : Int)).length = 2048 := List.length_replicate
  have hcs : CcL [] 0 0 0 (dLs (nmTx l) (dTbl (nmTx l) ord) (closeR (relN l.length P) l.length) (List.replicate 2048 0)) (.sl 1 (dBs (nmTx l)) none :: .pt (dTbl (nmTx l) ord) 0 :: dRel (closeR (relN l.length P) l.length) :: vL (List.replicate 2048 (.int .i64 0))) := by
    refine ⟨_, _, rfl, Or.inr (Or.inl ⟨_, rfl⟩), _, _, rfl, Or.inl rfl, _, _, rfl, Or.inl rfl, ?_⟩
    rw [vL_rep]
    exact ccL_cZ _ _ _ _ _
  have hbn := bounds_spec (nmTx l) (dTbl (nmTx l) ord) _ (List.replicate 2048 0) hcok (by omega) (by omega) hrep
  refine call_o (enters_of Tryz.func146 (by decide +kernel) rfl) rfl rfl hcs (by repeat' (first | exact rfl | exact trivial | exact Or.inr (Or.inl ⟨_, rfl⟩) | exact Or.inr ⟨_, rfl⟩ | exact Or.inl ⟨rfl, rfl⟩ | exact Or.inl rfl | refine Or.inr ⟨_, _, rfl, Nat.zero_le _, rfl, ?_⟩ | refine ⟨_, _, rfl, ?_, ?_⟩ | refine ⟨_, rfl, ?_⟩ | refine Or.inr (Or.inr (Or.inr ⟨_, _, rfl, ?_⟩)) | exact Or.inl rfl | refine Or.inr ?_)) hbn (fun r os tk h => ?_) (fun r cs2 h => ?_)
  · obtain ⟨js', rfl, _, rfl, _⟩ := h
    refine ⟨rfl, fun cs2 h => ?_⟩
    rw [List.mem_singleton.1 h]
    exact clL_dLs _ _ _ _ _ _
  obtain ⟨js', h1, hj2, hr, hjm⟩ := h
  simp only [List.cons.injEq, and_true] at h1
  subst h1
  have hB : firstN (bndP (bitB (closeR (relN l.length P) l.length)) (nmTx l).length) (nmTx l).length = firstN (bndP (leqN l.length P) l.length) l.length := by
    rw [hnl]
    rfl
  rw [hB] at hr hjm
  cases hb : firstN (bndP (leqN l.length P) l.length) l.length with
  | some b =>
    rw [hb] at hr hF
    subst hr
    simp only at hF
    have hbl := (firstN_spec hb).1
    obtain ⟨w, hw⟩ : ∃ w, l[b]? = some w := ⟨_, List.getElem?_eq_getElem hbl⟩
    rw [atN_get hw] at hF
    refine drawG_s mo (by decide +kernel) ?_
    refine ⟨dWd w, ⟨by simp only [oz]; omega, dWds_get hw⟩, ?_⟩
    exact ⟨_, (by repeat' (first | exact rfl | exact trivial | exact Or.inr (Or.inl ⟨_, rfl⟩) | exact Or.inr ⟨_, rfl⟩ | exact Or.inl ⟨rfl, rfl⟩ | exact Or.inl rfl | refine Or.inr ⟨_, _, rfl, Nat.zero_le _, rfl, ?_⟩ | refine ⟨_, _, rfl, ?_, ?_⟩ | refine ⟨_, rfl, ?_⟩ | refine Or.inr (Or.inr (Or.inr ⟨_, _, rfl, ?_⟩)) | exact Or.inl rfl | refine Or.inr ?_)), latΦ_bad (os := []) (tk := []) hF (by simp)⟩
  | none =>
    rw [hb] at hr hF
    subst hr
    simp only at hF
    refine ⟨.tup [.pt (dLs (nmTx l) (dTbl (nmTx l) ord) (closeR (relN l.length P) l.length) js') 0, Ft.d (0, 0)], (by repeat' (first | exact rfl | exact trivial | exact Or.inr (Or.inl ⟨_, rfl⟩) | exact Or.inr ⟨_, rfl⟩ | exact Or.inl ⟨rfl, rfl⟩ | exact Or.inl rfl | refine Or.inr ⟨_, _, rfl, Nat.zero_le _, rfl, ?_⟩ | refine ⟨_, _, rfl, ?_, ?_⟩ | refine ⟨_, rfl, ?_⟩ | exact ccL_cZ _ _ _ _ _ | refine Or.inr (Or.inr (Or.inr ⟨_, _, rfl, ?_⟩)) | exact Or.inl rfl | refine Or.inr ?_)), latΦ_ok (os := []) (tk := []) hF ⟨ord, js', hT, by omega, hj2, ?_, by rw [hPP]⟩⟩
    rw [hPP]
    rw [hnl] at hjm
    exact hjm hb
end Go.Proofs.YtmphiikdhifhjaaGreat
set_option maxRecDepth 100000
namespace Go.Proofs.YtmphiikdhifhjaaGreat
open Go Go.RowKit Dv Tryz

section
variable (names : List ByteArray) (tc : List DV) (rows : List Nat) (js : List Int)

theorem llen_spec : EvP Tryz.prog 31 [.pt (dLs names tc rows js) 0] (.v (.int .i64 names.length)) := by
  refine ev_go (P := Tryz.prog) tt tt_ok 5000 10 [.tmp 2] Tryz.func31 rfl Tryz.ntmps31 rfl (Nat.le_of_ble_eq_true rfl) (fun E9 w9 hn9 hm9 => ?_)
  refine (congrArg (fun z => DV.v (.int .i64 z)) ?_ : _ = _)
  rw [dBs_len]

theorem lhas_spec (i : Int) : EvP Tryz.prog 103 [.pt (dLs names tc rows js) 0, .v (.int .i64 i)] (.v (.bool (decide (0 ≤ i) && decide (i < names.length)))) := by
  refine ev_go (P := Tryz.prog) tt tt_ok 5000 13 [.tmp 4] Tryz.func103 rfl Tryz.ntmps103 rfl (Nat.le_of_ble_eq_true rfl) (fun E9 w9 hn9 hm9 => ?_)
  refine br (fun g => ?_) (fun g => ?_)
  · have g : decide (0 ≤ i) = true := by simpa using g
    refine call_p (enters_of Tryz.func31 (by decide +kernel) rfl) (llen_spec names tc rows js) (by repeat' (first | exact rfl | exact trivial | exact Or.inr (Or.inl ⟨_, rfl⟩) | exact Or.inr ⟨_, rfl⟩ | exact Or.inl ⟨rfl, rfl⟩ | exact Or.inl rfl | refine Or.inr ⟨_, _, rfl, Nat.zero_le _, rfl, ?_⟩ | refine ⟨_, _, rfl, ?_, ?_⟩ | refine ⟨_, rfl, ?_⟩ | refine Or.inr (Or.inr (Or.inr ⟨_, _, rfl, ?_⟩)) | exact Or.inl rfl | refine Or.inr ?_)) rfl ?_
    refine (congrArg (fun b => DV.v (.bool b)) ?_ : _ = _)
    simp [g, pickB]
  · have g : decide (0 ≤ i) = false := by simpa using g
    refine (congrArg (fun b => DV.v (.bool b)) ?_ : _ = _)
    simp [g, pickB]

theorem lhas_nat {a : Nat} (h : a < names.length) : EvP Tryz.prog 103 [.pt (dLs names tc rows js) 0, .v (.int .i64 a)] (.v (.bool true)) := by
  have := lhas_spec names tc rows js a
  have e : (decide (0 ≤ (a : Int)) && decide ((a : Int) < names.length)) = true := by simp [h]
  rw [e] at this
  exact this

theorem lname_spec (i : Int) : EvP Tryz.prog 39 [.pt (dLs names tc rows js) 0, .v (.int .i64 i)] (.v (.string (if 0 ≤ i ∧ i < names.length then (names[i.toNat]?).getD emptyB else emptyB))) := by
  refine ev_go (P := Tryz.prog) tt tt_ok 5000 16 [.tmp 4] Tryz.func39 rfl Tryz.ntmps39 rfl (Nat.le_of_ble_eq_true rfl) (fun E9 w9 hn9 hm9 => ?_)
  refine call_p (enters_of Tryz.func103 (by decide +kernel) rfl) (lhas_spec names tc rows js i) (by repeat' (first | exact rfl | exact trivial | exact Or.inr (Or.inl ⟨_, rfl⟩) | exact Or.inr ⟨_, rfl⟩ | exact Or.inl ⟨rfl, rfl⟩ | exact Or.inl rfl | refine Or.inr ⟨_, _, rfl, Nat.zero_le _, rfl, ?_⟩ | refine ⟨_, _, rfl, ?_, ?_⟩ | refine ⟨_, rfl, ?_⟩ | refine Or.inr (Or.inr (Or.inr ⟨_, _, rfl, ?_⟩)) | exact Or.inl rfl | refine Or.inr ?_)) rfl ?_
  refine br (fun g => ?_) (fun g => ?_)
  · have g : ¬ (0 ≤ i ∧ i < names.length) := by simp at g; omega
    rw [if_neg g]
    exact (rfl : _ = _)
  · have g : 0 ≤ i ∧ i < names.length := by simp at g; omega
    obtain ⟨x, hx⟩ : ∃ x, names[i.toNat]? = some x := ⟨_, List.getElem?_eq_getElem (by omega)⟩
    refine ⟨_, ⟨g.1, dBs_get hx⟩, ?_⟩
    rw [if_pos g, hx]
    exact (rfl : _ = _)
end

theorem lfind_spec (names : List ByteArray) (ord rows : List Nat) (js : List Int) (s : ByteArray) (hT : TblOK names ord) (hl : ord.length ≤ 1099511627776) :
    EvP Tryz.prog 186 [.pt (dLs names (dTbl names ord) rows js) 0, .v (.string s)] (optD2 (ixOf names s)) := by
  have h := tfind_spec names ord s hT hl
  refine ev_go (P := Tryz.prog) tt tt_ok 5000 16 [.tmp 4, .tmp 5] Tryz.func186 rfl Tryz.ntmps186 rfl (Nat.le_of_ble_eq_true rfl) (fun E9 w9 hn9 hm9 => ?_)
  cases hx : ixOf names s with
  | none =>
    rw [hx] at h
    refine call_p (enters_of Tryz.func101 (by decide +kernel) rfl) (h) (by repeat' (first | exact rfl | exact trivial | exact Or.inr (Or.inl ⟨_, rfl⟩) | exact Or.inr ⟨_, rfl⟩ | exact Or.inl ⟨rfl, rfl⟩ | exact Or.inl rfl | refine Or.inr ⟨_, _, rfl, Nat.zero_le _, rfl, ?_⟩ | refine ⟨_, _, rfl, ?_, ?_⟩ | refine ⟨_, rfl, ?_⟩ | refine Or.inr (Or.inr (Or.inr ⟨_, _, rfl, ?_⟩)) | exact Or.inl rfl | refine Or.inr ?_)) rfl ?_
    exact ⟨_, (by repeat' (first | exact rfl | exact trivial | exact Or.inr (Or.inl ⟨_, rfl⟩) | exact Or.inr ⟨_, rfl⟩ | exact Or.inl ⟨rfl, rfl⟩ | exact Or.inl rfl | refine Or.inr ⟨_, _, rfl, Nat.zero_le _, rfl, ?_⟩ | refine ⟨_, _, rfl, ?_, ?_⟩ | refine ⟨_, rfl, ?_⟩ | refine Or.inr (Or.inr (Or.inr ⟨_, _, rfl, ?_⟩)) | exact Or.inl rfl | refine Or.inr ?_)), rfl⟩
  | some k =>
    rw [hx] at h
    refine call_p (enters_of Tryz.func101 (by decide +kernel) rfl) (h) (by repeat' (first | exact rfl | exact trivial | exact Or.inr (Or.inl ⟨_, rfl⟩) | exact Or.inr ⟨_, rfl⟩ | exact Or.inl ⟨rfl, rfl⟩ | exact Or.inl rfl | refine Or.inr ⟨_, _, rfl, Nat.zero_le _, rfl, ?_⟩ | refine ⟨_, _, rfl, ?_, ?_⟩ | refine ⟨_, rfl, ?_⟩ | refine Or.inr (Or.inr (Or.inr ⟨_, _, rfl, ?_⟩)) | exact Or.inl rfl | refine Or.inr ?_)) rfl ?_
    exact ⟨_, (by repeat' (first | exact rfl | exact trivial | exact Or.inr (Or.inl ⟨_, rfl⟩) | exact Or.inr ⟨_, rfl⟩ | exact Or.inl ⟨rfl, rfl⟩ | exact Or.inl rfl | refine Or.inr ⟨_, _, rfl, Nat.zero_le _, rfl, ?_⟩ | refine ⟨_, _, rfl, ?_, ?_⟩ | refine ⟨_, rfl, ?_⟩ | refine Or.inr (Or.inr (Or.inr ⟨_, _, rfl, ?_⟩)) | exact Or.inl rfl | refine Or.inr ?_)), rfl⟩

theorem row_cell {l : List DV} {k b : Nat} {x : DV} (hb : b < 32) (h : l[k + b]? = some x) : (((l.drop k).take 32).drop b).take 1 = [x] := by
  have h1 : ((l.drop k).take 32)[b]? = some x := by
    rw [List.getElem?_take, if_pos hb, List.getElem?_drop]
    exact h
  rw [List.drop_eq_getElem_cons (List.getElem?_eq_some_iff.1 h1).1]
  rw [List.getElem?_eq_getElem (List.getElem?_eq_some_iff.1 h1).1] at h1
  simp only [Option.some.injEq] at h1
  rw [h1]
  rfl

section
variable (names : List ByteArray) (tc : List DV) (rows : List Nat) (js : List Int)
theorem ljoin_spec (a b : Nat) (z : Int) (ha : a < names.length) (hb : b < names.length) (hn : names.length ≤ 32) (hz : js[a * 32 + b]? = some z) :
    EvP Tryz.prog 187 [.pt (dLs names tc rows js) 0, .v (.int .i64 a), .v (.int .i64 b)] (.v (.int .i64 z)) := by
  refine ev_go (P := Tryz.prog) tt tt_ok 5000 25 [.tmp 6] Tryz.func187 rfl Tryz.ntmps187 rfl (Nat.le_of_ble_eq_true rfl) (fun E9 w9 hn9 hm9 => ?_)
  refine call_p (enters_of Tryz.func103 (by decide +kernel) rfl) (lhas_nat names tc rows js ha) (by repeat' (first | exact rfl | exact trivial | exact Or.inr (Or.inl ⟨_, rfl⟩) | exact Or.inr ⟨_, rfl⟩ | exact Or.inl ⟨rfl, rfl⟩ | exact Or.inl rfl | refine Or.inr ⟨_, _, rfl, Nat.zero_le _, rfl, ?_⟩ | refine ⟨_, _, rfl, ?_, ?_⟩ | refine ⟨_, rfl, ?_⟩ | refine Or.inr (Or.inr (Or.inr ⟨_, _, rfl, ?_⟩)) | exact Or.inl rfl | refine Or.inr ?_)) rfl ?_
  refine call_p (enters_of Tryz.func103 (by decide +kernel) rfl) (lhas_nat names tc rows js hb) (by repeat' (first | exact rfl | exact trivial | exact Or.inr (Or.inl ⟨_, rfl⟩) | exact Or.inr ⟨_, rfl⟩ | exact Or.inl ⟨rfl, rfl⟩ | exact Or.inl rfl | refine Or.inr ⟨_, _, rfl, Nat.zero_le _, rfl, ?_⟩ | refine ⟨_, _, rfl, ?_, ?_⟩ | refine ⟨_, rfl, ?_⟩ | refine Or.inr (Or.inr (Or.inr ⟨_, _, rfl, ?_⟩)) | exact Or.inl rfl | refine Or.inr ?_)) rfl ?_
  refine ⟨_, ⟨⟨by omega, by omega⟩, rfl⟩, ?_⟩
  refine ⟨_, ⟨⟨by omega, by omega⟩, row_cell (x := .v (.int .i64 z)) (by omega) ?_⟩, ?_⟩
  · rw [show 0 + 3 + (a : Int).toNat * 32 + (0 + (b : Int).toNat * 1) = (a * 32 + b) + 3 by omega]
    simp only [dLt, List.getElem?_cons_succ, cZ, List.getElem?_map, hz, Option.map_some]
  exact (rfl : _ = _)
theorem lmeet_spec (a b : Nat) (z : Int) (ha : a < names.length) (hb : b < names.length) (hn : names.length ≤ 32) (hz : js[1024 + (a * 32 + b)]? = some z) :
    EvP Tryz.prog 200 [.pt (dLs names tc rows js) 0, .v (.int .i64 a), .v (.int .i64 b)] (.v (.int .i64 z)) := by
  refine ev_go (P := Tryz.prog) tt tt_ok 5000 25 [.tmp 6] Tryz.func200 rfl Tryz.ntmps200 rfl (Nat.le_of_ble_eq_true rfl) (fun E9 w9 hn9 hm9 => ?_)
  refine call_p (enters_of Tryz.func103 (by decide +kernel) rfl) (lhas_nat names tc rows js ha) (by repeat' (first | exact rfl | exact trivial | exact Or.inr (Or.inl ⟨_, rfl⟩) | exact Or.inr ⟨_, rfl⟩ | exact Or.inl ⟨rfl, rfl⟩ | exact Or.inl rfl | refine Or.inr ⟨_, _, rfl, Nat.zero_le _, rfl, ?_⟩ | refine ⟨_, _, rfl, ?_, ?_⟩ | refine ⟨_, rfl, ?_⟩ | refine Or.inr (Or.inr (Or.inr ⟨_, _, rfl, ?_⟩)) | exact Or.inl rfl | refine Or.inr ?_)) rfl ?_
  refine call_p (enters_of Tryz.func103 (by decide +kernel) rfl) (lhas_nat names tc rows js hb) (by repeat' (first | exact rfl | exact trivial | exact Or.inr (Or.inl ⟨_, rfl⟩) | exact Or.inr ⟨_, rfl⟩ | exact Or.inl ⟨rfl, rfl⟩ | exact Or.inl rfl | refine Or.inr ⟨_, _, rfl, Nat.zero_le _, rfl, ?_⟩ | refine ⟨_, _, rfl, ?_, ?_⟩ | refine ⟨_, rfl, ?_⟩ | refine Or.inr (Or.inr (Or.inr ⟨_, _, rfl, ?_⟩)) | exact Or.inl rfl | refine Or.inr ?_)) rfl ?_
  refine ⟨_, ⟨⟨by omega, by omega⟩, rfl⟩, ?_⟩
  refine ⟨_, ⟨⟨by omega, by omega⟩, row_cell (x := .v (.int .i64 z)) (by omega) ?_⟩, ?_⟩
  · rw [show 0 + 1027 + (a : Int).toNat * 32 + (0 + (b : Int).toNat * 1) = (1024 + (a * 32 + b)) + 3 by omega]
    simp only [dLt, List.getElem?_cons_succ, cZ, List.getElem?_map, hz, Option.map_some]
  exact (rfl : _ = _)
end

/-! ### What joins and meets are -/
theorem bestA_pin {pin : Nat → Bool} {pb : Nat → Nat → Bool} : ∀ {e k : Nat}, bestA pin pb e = some k → pin k = true
  | 0, k, h => by cases h
  | e + 1, k, h => by
    rw [bestA] at h
    split at h
    · rename_i h1
      simp only [Option.some.injEq] at h
      subst h
      simp only [Bool.and_eq_true] at h1
      exact h1.1
    · exact bestA_pin h
theorem bestN_some {pin : Nat → Bool} {pb : Nat → Nat → Bool} {n k : Nat} (h : bestN pin pb n = some k) : k < n ∧ pin k = true ∧ ∀ c, c < n → pin c = true → pb k c = true := by
  unfold bestN at h
  split at h
  · cases h
  · rename_i o ho
    split at h
    · cases h
    · rename_i h1
      simp only [Option.some.injEq] at h
      subst h
      refine ⟨bestA_lt ho, bestA_pin ho, fun c hc hp => ?_⟩
      simp only [List.any_eq_true, List.mem_range, Bool.and_eq_true, Bool.not_eq_true', not_exists, not_and] at h1
      have := h1 c hc hp
      simpa using this

/-- An order of n things with all joins and meets. -/
structure LatOK (f : Nat → Nat → Bool) (n : Nat) : Prop where
  pos : 0 < n
  rfl' : ∀ a, a < n → f a a = true
  tr : ∀ a b c, a < n → b < n → c < n → f a b = true → f b c = true → f a c = true
  anti : ∀ a b, a < n → b < n → f a b = true → f b a = true → a = b
  jn : ∀ a b, a < n → b < n → ∃ k, joinN f n a b = some k
  mt : ∀ a b, a < n → b < n → ∃ k, meetN f n a b = some k

theorem joinN_spec {f : Nat → Nat → Bool} {n a b k : Nat} (h : joinN f n a b = some k) : k < n ∧ f a k = true ∧ f b k = true ∧ ∀ c, c < n → f a c = true → f b c = true → f k c = true := by
  obtain ⟨h1, h2, h3⟩ := bestN_some h
  simp only [Bool.and_eq_true] at h2
  exact ⟨h1, h2.1, h2.2, fun c hc ha hb => h3 c hc (by simp [ha, hb])⟩
theorem meetN_spec {f : Nat → Nat → Bool} {n a b k : Nat} (h : meetN f n a b = some k) : k < n ∧ f k a = true ∧ f k b = true ∧ ∀ c, c < n → f c a = true → f c b = true → f c k = true := by
  obtain ⟨h1, h2, h3⟩ := bestN_some h
  simp only [Bool.and_eq_true] at h2
  exact ⟨h1, h2.1, h2.2, fun c hc ha hb => h3 c hc (by simp [ha, hb])⟩

/-- c is above all of some things. -/
def overB (f : Nat → Nat → Bool) (l : List Nat) (c : Nat) : Bool := l.all fun i => f i c
/-- c is the least thing above all of some. -/
def lstB (f : Nat → Nat → Bool) (n : Nat) (l : List Nat) (c : Nat) : Bool := overB f l c && (List.range n).all fun d => !overB f l d || f c d
def leastN (f : Nat → Nat → Bool) (n : Nat) (l : List Nat) : Option Nat := firstN (lstB f n l) n
theorem lstB_iff {f : Nat → Nat → Bool} {n : Nat} {l : List Nat} {c : Nat} : lstB f n l c = true ↔ overB f l c = true ∧ ∀ d, d < n → overB f l d = true → f c d = true := by
  unfold lstB
  simp only [Bool.and_eq_true, List.all_eq_true, List.mem_range, Bool.or_eq_true, Bool.not_eq_true']
  constructor
  · rintro ⟨h1, h2⟩
    refine ⟨h1, fun d hd ho => ?_⟩
    rcases h2 d hd with h | h
    · rw [ho] at h; cases h
    · exact h
  · rintro ⟨h1, h2⟩
    refine ⟨h1, fun d hd => ?_⟩
    cases ho : overB f l d
    · exact .inl rfl
    · exact .inr (h2 d hd ho)
theorem leastN_eq {f : Nat → Nat → Bool} {n : Nat} (hL : LatOK f n) {l : List Nat} {c : Nat} (hc : c < n) (h : lstB f n l c = true) : leastN f n l = some c := by
  refine firstN_some hc h fun a ha => ?_
  cases h2 : lstB f n l a
  · rfl
  · obtain ⟨h3, h4⟩ := lstB_iff.1 h
    obtain ⟨h5, h6⟩ := lstB_iff.1 h2
    have := hL.anti a c (by omega) hc (h6 c hc h3) (h4 a (by omega) h5)
    omega
/-- The least thing of all. -/
theorem leastN_nil {f : Nat → Nat → Bool} {n c : Nat} (hL : LatOK f n) (hc : c < n) (h : ∀ d, d < n → f c d = true) : leastN f n [] = some c :=
  leastN_eq hL hc (lstB_iff.2 ⟨rfl, fun d hd _ => h d hd⟩)
theorem leastN_snoc {f : Nat → Nat → Bool} {n c k i : Nat} {l : List Nat} (hL : LatOK f n) (hl : ∀ x ∈ l, x < n) (hi : i < n) (h : leastN f n l = some c) (hk : joinN f n c i = some k) : leastN f n (l ++ [i]) = some k := by
  obtain ⟨h1, h2, _⟩ := firstN_spec h
  obtain ⟨h3, h4⟩ := lstB_iff.1 h2
  obtain ⟨g1, g2, g3, g4⟩ := joinN_spec hk
  simp only [overB, List.all_eq_true] at h3
  refine leastN_eq hL g1 (lstB_iff.2 ⟨?_, fun d hd ho => ?_⟩)
  · simp only [overB, List.all_eq_true, List.mem_append, List.mem_singleton]
    rintro x (hx | rfl)
    · exact hL.tr x c k (hl x hx) h1 g1 (h3 x hx) g2
    · exact g3
  · simp only [overB, List.all_eq_true, List.mem_append, List.mem_singleton] at ho
    refine g4 d hd (h4 d hd ?_) (ho i (.inr rfl))
    simp only [overB, List.all_eq_true]
    exact fun x hx => ho x (.inl hx)
theorem leastN_lt {f : Nat → Nat → Bool} {n c : Nat} {l : List Nat} (h : leastN f n l = some c) : c < n := (firstN_spec h).1

/-! ### Bottom -/
abbrev botSt (L : List DV) (n b e : Nat) : St :=
  ⟨[(0, ⟨[], .pt L 0⟩), (3, ⟨[], .v (.int .i64 b)⟩), (9, ⟨[], .v (.int .i64 n)⟩), (10, ⟨[], .v (.int .i64 e)⟩)], [], []⟩

theorem lbottom_spec (names : List ByteArray) (tc : List DV) (rows : List Nat) (js : List Int) {f : Nat → Nat → Bool} (hL : LatOK f names.length) (hn : names.length ≤ 32) (hj : ∀ x y, x < names.length → y < names.length → JM f names.length js x y) :
    EvP Tryz.prog 185 [.pt (dLs names tc rows js) 0] (.v (.int .i64 (oz (leastN f names.length [])))) := by
  have hlen := llen_spec names tc rows js
  have hpos := hL.pos
  refine ev_go (P := Tryz.prog) tt tt_ok 5000 19 [.tmp 2] Tryz.func185 rfl Tryz.ntmps185 rfl (Nat.le_of_ble_eq_true rfl) (fun E9 w9 hn9 hm9 => ?_)
  refine call_p (enters_of Tryz.func31 (by decide +kernel) rfl) (hlen) (by repeat' (first | exact rfl | exact trivial | exact Or.inr (Or.inl ⟨_, rfl⟩) | exact Or.inr ⟨_, rfl⟩ | exact Or.inl ⟨rfl, rfl⟩ | exact Or.inl rfl | refine Or.inr ⟨_, _, rfl, Nat.zero_le _, rfl, ?_⟩ | refine ⟨_, _, rfl, ?_, ?_⟩ | refine ⟨_, rfl, ?_⟩ | refine Or.inr (Or.inr (Or.inr ⟨_, _, rfl, ?_⟩)) | exact Or.inl rfl | refine Or.inr ?_)) rfl ?_
  refine br (fun g => ?_) (fun g => ?_)
  · exfalso
    simp at g
    simp [g] at hpos
  refine call_p (enters_of Tryz.func31 (by decide +kernel) rfl) (hlen) (by repeat' (first | exact rfl | exact trivial | exact Or.inr (Or.inl ⟨_, rfl⟩) | exact Or.inr ⟨_, rfl⟩ | exact Or.inl ⟨rfl, rfl⟩ | exact Or.inl rfl | refine Or.inr ⟨_, _, rfl, Nat.zero_le _, rfl, ?_⟩ | refine ⟨_, _, rfl, ?_, ?_⟩ | refine ⟨_, rfl, ?_⟩ | refine Or.inr (Or.inr (Or.inr ⟨_, _, rfl, ?_⟩)) | exact Or.inl rfl | refine Or.inr ?_)) rfl ?_
  refine loop_i (fun j st => ∃ e b : Nat, st = botSt (dLs names tc rows js) names.length b e ∧ e ≤ names.length ∧ b < names.length ∧ (∀ x, x < e → f b x = true) ∧ j = names.length - e) names.length (botSt (dLs names tc rows js) names.length 0 0) (weak_mk ⟨_, rfl⟩ (by repeat' (first | exact rfl | exact we_rfl rfl | refine ⟨_, _, rfl, ?_, ?_⟩)) rfl rfl rfl (by repeat' (first | exact trivial | exact we_rfl rfl | refine ⟨⟨_, rfl, ?_⟩, ?_⟩))) ⟨0, 0, rfl, by omega, by omega, fun _ h => by omega, by omega⟩ ?_
  rintro j st ⟨e, b, rfl, he, hb, hle, rfl⟩
  refine br (fun hL' => ?_) (fun hL' => ?_)
  · have hlt : e < names.length := by have := hL'; simp at this; exact this
    obtain ⟨k, hk⟩ := hL.mt b e hb hlt
    obtain ⟨g1, g2, g3, g4⟩ := meetN_spec hk
    have hz := (hj b e hb hlt).2
    rw [hk] at hz
    refine call_p (enters_of Tryz.func200 (by decide +kernel) rfl) (lmeet_spec names tc rows js b e k hb hlt hn hz) (by repeat' (first | exact rfl | exact trivial | exact Or.inr (Or.inl ⟨_, rfl⟩) | exact Or.inr ⟨_, rfl⟩ | exact Or.inl ⟨rfl, rfl⟩ | exact Or.inl rfl | refine Or.inr ⟨_, _, rfl, Nat.zero_le _, rfl, ?_⟩ | refine ⟨_, _, rfl, ?_, ?_⟩ | refine ⟨_, rfl, ?_⟩ | refine Or.inr (Or.inr (Or.inr ⟨_, _, rfl, ?_⟩)) | exact Or.inl rfl | refine Or.inr ?_)) rfl ?_
    refine ⟨botSt (dLs names tc rows js) names.length k (e + 1), (weak_mk ⟨_, rfl⟩ (by repeat' (first | exact rfl | exact we_rfl rfl | refine ⟨_, _, rfl, ?_, ?_⟩)) rfl rfl rfl (by repeat' (first | exact trivial | exact we_rfl rfl | exact we_int (nxt hlt (by omega)) | refine ⟨⟨_, rfl, ?_⟩, ?_⟩))), names.length - (e + 1), by omega, e + 1, k, rfl, by omega, g1, fun x hx => ?_, rfl⟩
    rcases Nat.lt_succ_iff_lt_or_eq.1 hx with hx | rfl
    · exact hL.tr k b x g1 hb (by omega) g2 (hle x hx)
    · exact g3
  · have hge : e = names.length := by have := hL'; simp at this; omega
    subst hge
    rw [leastN_nil hL hb hle]
    exact (rfl : _ = _)

/-! ### labels.Of -/
/-- The first word that is no level. -/
def labW (L : List ByteArray) : List Wd → Ft
  | [] => (0, 0)
  | w :: r => if ixOf L w.s = none then (17, w.a) else labW L r
def labI (L : List ByteArray) (l : List Wd) : List Nat := l.map fun w => (ixOf L w.s).getD 0
/-- The level for which words stand. -/
def labN (f : Nat → Nat → Bool) (L : List ByteArray) (l : List Wd) : Int := if (labW L l).1 = 0 then oz (leastN f L.length (labI L l)) else 0
def labD (f : Nat → Nat → Bool) (L : List ByteArray) (l : List Wd) : DV := .tup [.v (.int .i64 (labN f L l)), (labW L l).d]

theorem labW_drop {L : List ByteArray} {l : List Wd} {e : Nat} {w : Wd} (h : l[e]? = some w) : labW L (l.drop e) = if ixOf L w.s = none then (17, w.a) else labW L (l.drop (e + 1)) := by
  rw [drop_cons h, labW]
theorem labI_snoc {L : List ByteArray} {l : List Wd} {e i : Nat} {w : Wd} (h : l[e]? = some w) (hi : ixOf L w.s = some i) : labI L (l.take (e + 1)) = labI L (l.take e) ++ [i] := by
  rw [List.take_add_one, h]
  simp [labI, hi]

abbrev lofSt (L : List DV) (l : List Wd) (b e : Nat) : St :=
  ⟨[(0, ⟨[], .pt L 0⟩), (5, ⟨[], .loc 0 0⟩), (6, ⟨[], .v (.int .i64 b)⟩), (16, ⟨[], .sl 2 (dWds l) none⟩), (17, ⟨[], .v (.int .i64 (dWds l).length)⟩), (18, ⟨[], .v (.int .i64 e)⟩)], [[.v (.int .i64 0), .v (.int .i64 0)]], []⟩

theorem lof_spec (names : List ByteArray) (ord rows : List Nat) (js : List Int) (hT : TblOK names ord) (hol : ord.length ≤ 1099511627776) {f : Nat → Nat → Bool} (hL : LatOK f names.length) (hn : names.length ≤ 32) (hj : ∀ x y, x < names.length → y < names.length → JM f names.length js x y)
    (l : List Wd) (hs : wdsWt l ≤ 1099511627776) :
    EvP Tryz.prog 149 [.pt (dLs names (dTbl names ord) rows js) 0, .sl 2 (dWds l) none] (labD f names l) := by
  have hsl := wdsWt_len l
  have hbot := lbottom_spec names (dTbl names ord) rows js hL hn hj
  have hbx : ∃ b, leastN f names.length [] = some b := by
    -- the meet of all
    have : ∀ e, e ≤ names.length → ∃ b, b < names.length ∧ ∀ x, x < e → f b x = true := by
      intro e
      induction e with
      | zero => intro _; exact ⟨0, hL.pos, fun _ h => by omega⟩
      | succ e ih =>
        intro he
        obtain ⟨b, hb, hle⟩ := ih (by omega)
        obtain ⟨k, hk⟩ := hL.mt b e hb (by omega)
        obtain ⟨g1, g2, g3, _⟩ := meetN_spec hk
        refine ⟨k, g1, fun x hx => ?_⟩
        rcases Nat.lt_succ_iff_lt_or_eq.1 hx with hx | rfl
        · exact hL.tr k b x g1 hb (by omega) g2 (hle x hx)
        · exact g3
    obtain ⟨b, hb, hle⟩ := this names.length (Nat.le_refl _)
    exact ⟨b, leastN_nil hL hb hle⟩
  obtain ⟨b0, hb0⟩ := hbx
  rw [hb0] at hbot
  refine ev_go (P := Tryz.prog) tt tt_ok 5000 41 [.tmp 4, .cell 5 33] Tryz.func149 rfl Tryz.ntmps149 rfl (Nat.le_of_ble_eq_true rfl) (fun E9 w9 hn9 hm9 => ?_)
  refine call_p (enters_of Tryz.func185 (by decide +kernel) rfl) (hbot) (by repeat' (first | exact rfl | exact trivial | exact Or.inr (Or.inl ⟨_, rfl⟩) | exact Or.inr ⟨_, rfl⟩ | exact Or.inl ⟨rfl, rfl⟩ | exact Or.inl rfl | refine Or.inr ⟨_, _, rfl, Nat.zero_le _, rfl, ?_⟩ | refine ⟨_, _, rfl, ?_, ?_⟩ | refine ⟨_, rfl, ?_⟩ | refine Or.inr (Or.inr (Or.inr ⟨_, _, rfl, ?_⟩)) | exact Or.inl rfl | refine Or.inr ?_)) rfl ?_
  refine loop_i (fun j st => ∃ e b : Nat, st = lofSt (dLs names (dTbl names ord) rows js) l b e ∧ e ≤ l.length ∧ labW names l = labW names (l.drop e) ∧ leastN f names.length (labI names (l.take e)) = some b ∧ (∀ x ∈ labI names (l.take e), x < names.length) ∧ j = l.length - e) l.length (lofSt (dLs names (dTbl names ord) rows js) l b0 0) (weak_mk ⟨_, rfl⟩ (by repeat' (first | exact rfl | exact we_rfl rfl | refine ⟨_, _, rfl, ?_, ?_⟩)) rfl rfl rfl (by repeat' (first | exact trivial | exact we_rfl rfl | refine ⟨⟨_, rfl, ?_⟩, ?_⟩))) ⟨0, b0, rfl, by omega, rfl, hb0, by simp [labI], by omega⟩ ?_
  rintro j st ⟨e, b, rfl, he, heq, hlb, hix, rfl⟩
  have hb := leastN_lt hlb
  refine br (fun hLt => ?_) (fun hLt => ?_)
  · have hlt : e < l.length := by simpa [dWds_len] using hLt
    obtain ⟨w, hw⟩ : ∃ w, l[e]? = some w := ⟨_, List.getElem?_eq_getElem hlt⟩
    have hst := labW_drop (L := names) hw
    have hfi := lfind_spec names ord rows js w.s hT hol
    refine ⟨dWd w, ⟨by omega, dWds_get hw⟩, ?_⟩
    cases hx : ixOf names w.s with
    | none =>
      rw [hx] at hfi
      refine call_p (enters_of Tryz.func186 (by decide +kernel) rfl) (hfi) (by repeat' (first | exact rfl | exact trivial | exact Or.inr (Or.inl ⟨_, rfl⟩) | exact Or.inr ⟨_, rfl⟩ | exact Or.inl ⟨rfl, rfl⟩ | exact Or.inl rfl | refine Or.inr ⟨_, _, rfl, Nat.zero_le _, rfl, ?_⟩ | refine ⟨_, _, rfl, ?_, ?_⟩ | refine ⟨_, rfl, ?_⟩ | refine Or.inr (Or.inr (Or.inr ⟨_, _, rfl, ?_⟩)) | exact Or.inl rfl | refine Or.inr ?_)) rfl ?_
      rw [if_pos hx] at hst
      have h1 : labW names l = (17, w.a) := heq.trans hst
      refine drawG_s mo (by decide +kernel) ?_
      refine ⟨_, ?_, rfl⟩
      rw [labD, labN, h1, if_neg (by simp)]
      exact (by repeat' (first | exact rfl | exact trivial | exact Or.inr (Or.inl ⟨_, rfl⟩) | exact Or.inr ⟨_, rfl⟩ | exact Or.inl ⟨rfl, rfl⟩ | exact Or.inl rfl | refine Or.inr ⟨_, _, rfl, Nat.zero_le _, rfl, ?_⟩ | refine ⟨_, _, rfl, ?_, ?_⟩ | refine ⟨_, rfl, ?_⟩ | refine Or.inr (Or.inr (Or.inr ⟨_, _, rfl, ?_⟩)) | exact Or.inl rfl | refine Or.inr ?_))
    | some i =>
      rw [hx] at hfi
      refine call_p (enters_of Tryz.func186 (by decide +kernel) rfl) (hfi) (by repeat' (first | exact rfl | exact trivial | exact Or.inr (Or.inl ⟨_, rfl⟩) | exact Or.inr ⟨_, rfl⟩ | exact Or.inl ⟨rfl, rfl⟩ | exact Or.inl rfl | refine Or.inr ⟨_, _, rfl, Nat.zero_le _, rfl, ?_⟩ | refine ⟨_, _, rfl, ?_, ?_⟩ | refine ⟨_, rfl, ?_⟩ | refine Or.inr (Or.inr (Or.inr ⟨_, _, rfl, ?_⟩)) | exact Or.inl rfl | refine Or.inr ?_)) rfl ?_
      rw [if_neg (by rw [hx]; simp)] at hst
      have hi := (ixOf_some hx).1
      obtain ⟨k, hk⟩ := hL.jn b i hb hi
      have hz := (hj b i hb hi).1
      rw [hk] at hz
      refine call_p (enters_of Tryz.func187 (by decide +kernel) rfl) (ljoin_spec names (dTbl names ord) rows js b i k hb hi hn hz) (by repeat' (first | exact rfl | exact trivial | exact Or.inr (Or.inl ⟨_, rfl⟩) | exact Or.inr ⟨_, rfl⟩ | exact Or.inl ⟨rfl, rfl⟩ | exact Or.inl rfl | refine Or.inr ⟨_, _, rfl, Nat.zero_le _, rfl, ?_⟩ | refine ⟨_, _, rfl, ?_, ?_⟩ | refine ⟨_, rfl, ?_⟩ | refine Or.inr (Or.inr (Or.inr ⟨_, _, rfl, ?_⟩)) | exact Or.inl rfl | refine Or.inr ?_)) rfl ?_
      refine ⟨lofSt (dLs names (dTbl names ord) rows js) l k (e + 1), (weak_mk ⟨_, rfl⟩ (by repeat' (first | exact rfl | exact we_rfl rfl | refine ⟨_, _, rfl, ?_, ?_⟩)) rfl rfl rfl (by repeat' (first | exact trivial | exact we_rfl rfl | exact we_int (nxt hlt (by omega)) | refine ⟨⟨_, rfl, ?_⟩, ?_⟩))), l.length - (e + 1), by omega, e + 1, k, rfl, by omega, heq.trans hst, ?_, ?_, rfl⟩
      · rw [labI_snoc hw hx]
        exact leastN_snoc hL hix hi hlb hk
      · rw [labI_snoc hw hx]
        intro x hm
        rcases List.mem_append.1 hm with hm | hm
        · exact hix x hm
        · rw [List.mem_singleton.1 hm]; exact hi
  · have hge : e = l.length := by
      have := hLt; simp [dWds_len] at this; omega
    subst hge
    rw [List.drop_length] at heq
    rw [List.take_length] at hlb
    have h1 : labW names l = (0, 0) := heq
    refine ⟨_, ?_, rfl⟩
    rw [labD, labN, h1, if_pos rfl, hlb]
    exact (by repeat' (first | exact rfl | exact trivial | exact Or.inr (Or.inl ⟨_, rfl⟩) | exact Or.inr ⟨_, rfl⟩ | exact Or.inl ⟨rfl, rfl⟩ | exact Or.inl rfl | refine Or.inr ⟨_, _, rfl, Nat.zero_le _, rfl, ?_⟩ | refine ⟨_, _, rfl, ?_, ?_⟩ | refine ⟨_, rfl, ?_⟩ | refine Or.inr (Or.inr (Or.inr ⟨_, _, rfl, ?_⟩)) | exact Or.inl rfl | refine Or.inr ?_))
end Go.Proofs.YtmphiikdhifhjaaGreat
set_option maxRecDepth 100000
namespace Go.Proofs.YtmphiikdhifhjaaGreat
open Go Go.RowKit Dv Tryz

/-- What one of the checker's methods says: the fault, and how many types so far, where nothing is wrong. -/
def ChkR (x : Ft × Int) (r : DV) (os : List (List DV)) (_ : List TkE) : Prop :=
  r = x.1.d ∧ ∃ z : Int, os = [[.v (.int .i64 z)]] ∧ (x.1.1 = 0 → z = x.2)

theorem chkR_cl {x : Ft × Int} : ∀ r os tk, ChkR x r os tk → clB 0 0 r = true ∧ ∀ cs2 ∈ os, clB.clL 0 0 cs2 = true := by
  rintro r os tk ⟨rfl, z, rfl, _⟩
  refine ⟨rfl, fun cs2 h => ?_⟩
  simp only [List.mem_singleton] at h
  subst h
  rfl

/-- The contract of check, for types of at most this weight. -/
def KChk (k : Nat) : Prop := ∀ (t : Ty) (depth m : Int), t.wt ≤ k → t.wt ≤ 1099511627776 → 0 ≤ depth → depth ≤ 25 → 0 ≤ m → m ≤ 512 →
  Ev Tryz.prog 125 [.loc 0 0, .agg (dTy t), .v (.int .i64 depth)] [[.v (.int .i64 m)]] [] (ChkR (wrong t depth m))

/-- What part says of a part. -/
def partF (p : Ph) (t : Ty) (un : Bool) (depth m : Int) : Ft × Int :=
  if p.bare = true then (if un = false ∨ samePartB p t (bareOf p) zeroTy = false then ((19, p.name.a), m) else ((0, 0), m))
  else if (partWd p).1 ≠ 0 then (partWd p, m)
  else wrong t (depth + 1) m

/-- What is left at the end: the value's form. -/
theorem chkR_mk {x : Ft × Int} {f : Ft} {m z : Int} (h : x = (f, m)) (hz : f.1 = 0 → z = m) {tk : List TkE} : ChkR x f.d [[.v (.int .i64 z)]] tk := by
  subst h
  exact ⟨rfl, z, rfl, hz⟩

theorem kpart_spec (k : Nat) (ih : KChk k) (p : Ph) (t : Ty) (un : Bool) (depth m : Int) (hk : t.wt ≤ k) (hp : p.wt ≤ 1099511627776) (hbig : t.wt ≤ 1099511627776) (hd0 : 0 ≤ depth) (hd1 : depth ≤ 24) (hm0 : 0 ≤ m) (hm1 : m ≤ 512) :
    Ev Tryz.prog 192 [.loc 0 0, .agg (dPh p (dTy t)), .v (.bool un), .v (.int .i64 depth)] [[.v (.int .i64 m)]] [] (ChkR (partF p t un depth m)) := by
  have hp' := hp
  simp only [Ph.wt] at hp'
  have hsame := samePart_of p (bareOf p) t zeroTy hp (by simp only [Ph.wt, bareOf, wdsWt]; omega) (ksame_spec t zeroTy hbig (by decide))
  have hih := ih t (depth + 1) m hk hbig (by omega) (by omega) hm0 hm1
  obtain ⟨u, us⟩ := t
  have hcoa := kcoarse_spec p (dTy (.mk u us)) (.mk u us) rfl hp
  have hS := partF.eq_def p (.mk u us) un depth m
  generalize partF p (.mk u us) un depth m = F at hS ⊢
  obtain ⟨nm, bare, lab, wide, ck, cn, ca, cl⟩ := p
  simp only at hS hp' hsame
  cases bare with
  | true =>
    rw [if_pos rfl] at hS
    cases un with
    | true =>
      refine ev_go (P := Tryz.prog) tt tt_ok 5000 68 [.cell 8 33] Tryz.func192 rfl Tryz.ntmps192 rfl (Nat.le_of_ble_eq_true rfl) (fun E9 w9 hn9 hm9 => ?_)
      refine call_p (enters_of Tryz.func202 (by decide +kernel) rfl) (hsame) (by repeat' (first | exact rfl | exact trivial | exact Or.inr (Or.inl ⟨_, rfl⟩) | exact Or.inr ⟨_, rfl⟩ | exact Or.inl ⟨rfl, rfl⟩ | exact Or.inl rfl | refine Or.inr ⟨_, _, rfl, Nat.zero_le _, rfl, ?_⟩ | refine ⟨_, _, rfl, ?_, ?_⟩ | refine ⟨_, rfl, ?_⟩ | refine Or.inr (Or.inr (Or.inr ⟨_, _, rfl, ?_⟩)) | exact Or.inl rfl | refine Or.inr ?_)) rfl ?_
      refine br (fun q => ?_) (fun q => ?_)
      · have q : samePartB ⟨nm, true, lab, wide, ck, cn, ca, cl⟩ (.mk u us) (bareOf ⟨nm, true, lab, wide, ck, cn, ca, cl⟩) zeroTy = false := by simpa [show (lastG (21, false) [(18, true)]).snd = true from rfl, pickB] using q
        rw [if_pos (.inr q)] at hS
        refine call_p (enters_of Tryz.func164 (by decide +kernel) rfl) (bad_spec 19 nm.a) (by repeat' (first | exact rfl | exact trivial | exact Or.inr (Or.inl ⟨_, rfl⟩) | exact Or.inr ⟨_, rfl⟩ | exact Or.inl ⟨rfl, rfl⟩ | exact Or.inl rfl | refine Or.inr ⟨_, _, rfl, Nat.zero_le _, rfl, ?_⟩ | refine ⟨_, _, rfl, ?_, ?_⟩ | refine ⟨_, rfl, ?_⟩ | refine Or.inr (Or.inr (Or.inr ⟨_, _, rfl, ?_⟩)) | exact Or.inl rfl | refine Or.inr ?_)) rfl ?_
        exact ⟨_, _, (by repeat' (first | exact rfl | exact trivial | exact Or.inr (Or.inl ⟨_, rfl⟩) | exact Or.inr ⟨_, rfl⟩ | exact Or.inl ⟨rfl, rfl⟩ | exact Or.inl rfl | refine Or.inr ⟨_, _, rfl, Nat.zero_le _, rfl, ?_⟩ | refine ⟨_, _, rfl, ?_, ?_⟩ | refine ⟨_, rfl, ?_⟩ | refine Or.inr (Or.inr (Or.inr ⟨_, _, rfl, ?_⟩)) | exact Or.inl rfl | refine Or.inr ?_)), (by repeat' (first | exact rfl | exact trivial | exact Or.inr (Or.inl ⟨_, rfl⟩) | exact Or.inr ⟨_, rfl⟩ | exact Or.inl ⟨rfl, rfl⟩ | exact Or.inl rfl | refine Or.inr ⟨_, _, rfl, Nat.zero_le _, rfl, ?_⟩ | refine ⟨_, _, rfl, ?_, ?_⟩ | refine ⟨_, rfl, ?_⟩ | refine Or.inr (Or.inr (Or.inr ⟨_, _, rfl, ?_⟩)) | exact Or.inl rfl | refine Or.inr ?_)), chkR_mk (tk := []) (f := (19, nm.a)) hS (fun _ => rfl)⟩
      · have q : samePartB ⟨nm, true, lab, wide, ck, cn, ca, cl⟩ (.mk u us) (bareOf ⟨nm, true, lab, wide, ck, cn, ca, cl⟩) zeroTy = true := by simpa [show (lastG (21, false) [(18, true)]).snd = true from rfl, pickB] using q
        rw [if_neg (by simp [q])] at hS
        exact ⟨_, _, (by repeat' (first | exact rfl | exact trivial | exact Or.inr (Or.inl ⟨_, rfl⟩) | exact Or.inr ⟨_, rfl⟩ | exact Or.inl ⟨rfl, rfl⟩ | exact Or.inl rfl | refine Or.inr ⟨_, _, rfl, Nat.zero_le _, rfl, ?_⟩ | refine ⟨_, _, rfl, ?_, ?_⟩ | refine ⟨_, rfl, ?_⟩ | refine Or.inr (Or.inr (Or.inr ⟨_, _, rfl, ?_⟩)) | exact Or.inl rfl | refine Or.inr ?_)), (by repeat' (first | exact rfl | exact trivial | exact Or.inr (Or.inl ⟨_, rfl⟩) | exact Or.inr ⟨_, rfl⟩ | exact Or.inl ⟨rfl, rfl⟩ | exact Or.inl rfl | refine Or.inr ⟨_, _, rfl, Nat.zero_le _, rfl, ?_⟩ | refine ⟨_, _, rfl, ?_, ?_⟩ | refine ⟨_, rfl, ?_⟩ | refine Or.inr (Or.inr (Or.inr ⟨_, _, rfl, ?_⟩)) | exact Or.inl rfl | refine Or.inr ?_)), chkR_mk (tk := []) (f := (0, 0)) hS (fun _ => rfl)⟩
    | false =>
      refine ev_go (P := Tryz.prog) tt tt_ok 5000 68 [.cell 8 33] Tryz.func192 rfl Tryz.ntmps192 rfl (Nat.le_of_ble_eq_true rfl) (fun E9 w9 hn9 hm9 => ?_)
      rw [if_pos (.inl rfl)] at hS
      refine call_p (enters_of Tryz.func164 (by decide +kernel) rfl) (bad_spec 19 nm.a) (by repeat' (first | exact rfl | exact trivial | exact Or.inr (Or.inl ⟨_, rfl⟩) | exact Or.inr ⟨_, rfl⟩ | exact Or.inl ⟨rfl, rfl⟩ | exact Or.inl rfl | refine Or.inr ⟨_, _, rfl, Nat.zero_le _, rfl, ?_⟩ | refine ⟨_, _, rfl, ?_, ?_⟩ | refine ⟨_, rfl, ?_⟩ | refine Or.inr (Or.inr (Or.inr ⟨_, _, rfl, ?_⟩)) | exact Or.inl rfl | refine Or.inr ?_)) rfl ?_
      exact ⟨_, _, (by repeat' (first | exact rfl | exact trivial | exact Or.inr (Or.inl ⟨_, rfl⟩) | exact Or.inr ⟨_, rfl⟩ | exact Or.inl ⟨rfl, rfl⟩ | exact Or.inl rfl | refine Or.inr ⟨_, _, rfl, Nat.zero_le _, rfl, ?_⟩ | refine ⟨_, _, rfl, ?_, ?_⟩ | refine ⟨_, rfl, ?_⟩ | refine Or.inr (Or.inr (Or.inr ⟨_, _, rfl, ?_⟩)) | exact Or.inl rfl | refine Or.inr ?_)), (by repeat' (first | exact rfl | exact trivial | exact Or.inr (Or.inl ⟨_, rfl⟩) | exact Or.inr ⟨_, rfl⟩ | exact Or.inl ⟨rfl, rfl⟩ | exact Or.inl rfl | refine Or.inr ⟨_, _, rfl, Nat.zero_le _, rfl, ?_⟩ | refine ⟨_, _, rfl, ?_, ?_⟩ | refine ⟨_, rfl, ?_⟩ | refine Or.inr (Or.inr (Or.inr ⟨_, _, rfl, ?_⟩)) | exact Or.inl rfl | refine Or.inr ?_)), chkR_mk (tk := []) (f := (19, nm.a)) hS (fun _ => rfl)⟩
  | false =>
    rw [if_neg (by simp)] at hS
    refine ev_go (P := Tryz.prog) tt tt_ok 5000 68 [.cell 8 33] Tryz.func192 rfl Tryz.ntmps192 rfl (Nat.le_of_ble_eq_true rfl) (fun E9 w9 hn9 hm9 => ?_)
    refine br (fun hw => ?_) (fun hw => ?_)
    · have hw : wide < 0 ∨ 64 < wide := by simpa [pickB_or] using hw
      have hP : partWd ⟨nm, false, lab, wide, ck, cn, ca, cl⟩ = (20, nm.a) := by simp only [partWd, if_pos hw]
      rw [hP, if_pos (by simp)] at hS
      refine call_p (enters_of Tryz.func164 (by decide +kernel) rfl) (bad_spec 20 nm.a) (by repeat' (first | exact rfl | exact trivial | exact Or.inr (Or.inl ⟨_, rfl⟩) | exact Or.inr ⟨_, rfl⟩ | exact Or.inl ⟨rfl, rfl⟩ | exact Or.inl rfl | refine Or.inr ⟨_, _, rfl, Nat.zero_le _, rfl, ?_⟩ | refine ⟨_, _, rfl, ?_, ?_⟩ | refine ⟨_, rfl, ?_⟩ | refine Or.inr (Or.inr (Or.inr ⟨_, _, rfl, ?_⟩)) | exact Or.inl rfl | refine Or.inr ?_)) rfl ?_
      exact ⟨_, _, (by repeat' (first | exact rfl | exact trivial | exact Or.inr (Or.inl ⟨_, rfl⟩) | exact Or.inr ⟨_, rfl⟩ | exact Or.inl ⟨rfl, rfl⟩ | exact Or.inl rfl | refine Or.inr ⟨_, _, rfl, Nat.zero_le _, rfl, ?_⟩ | refine ⟨_, _, rfl, ?_, ?_⟩ | refine ⟨_, rfl, ?_⟩ | refine Or.inr (Or.inr (Or.inr ⟨_, _, rfl, ?_⟩)) | exact Or.inl rfl | refine Or.inr ?_)), (by repeat' (first | exact rfl | exact trivial | exact Or.inr (Or.inl ⟨_, rfl⟩) | exact Or.inr ⟨_, rfl⟩ | exact Or.inl ⟨rfl, rfl⟩ | exact Or.inl rfl | refine Or.inr ⟨_, _, rfl, Nat.zero_le _, rfl, ?_⟩ | refine ⟨_, _, rfl, ?_, ?_⟩ | refine ⟨_, rfl, ?_⟩ | refine Or.inr (Or.inr (Or.inr ⟨_, _, rfl, ?_⟩)) | exact Or.inl rfl | refine Or.inr ?_)), chkR_mk (tk := []) (f := (20, nm.a)) hS (fun _ => rfl)⟩
    have hw : ¬ (wide < 0 ∨ 64 < wide) := by simp [pickB_or] at hw; omega
    refine call_p (enters_of Tryz.func203 (by decide +kernel) rfl) (klabel_spec lab (by omega)) (by repeat' (first | exact rfl | exact trivial | exact Or.inr (Or.inl ⟨_, rfl⟩) | exact Or.inr ⟨_, rfl⟩ | exact Or.inl ⟨rfl, rfl⟩ | exact Or.inl rfl | refine Or.inr ⟨_, _, rfl, Nat.zero_le _, rfl, ?_⟩ | refine ⟨_, _, rfl, ?_, ?_⟩ | refine ⟨_, rfl, ?_⟩ | refine Or.inr (Or.inr (Or.inr ⟨_, _, rfl, ?_⟩)) | exact Or.inl rfl | refine Or.inr ?_)) rfl ?_
    refine br (fun hb => ?_) (fun hb => ?_)
    · have hb : (labelF lab).1 ≠ 0 := by simpa using hb
      have hP : partWd ⟨nm, false, lab, wide, ck, cn, ca, cl⟩ = labelF lab := by simp only [partWd, if_neg hw, if_pos hb]
      rw [hP, if_pos hb] at hS
      exact ⟨_, _, (by repeat' (first | exact rfl | exact trivial | exact Or.inr (Or.inl ⟨_, rfl⟩) | exact Or.inr ⟨_, rfl⟩ | exact Or.inl ⟨rfl, rfl⟩ | exact Or.inl rfl | refine Or.inr ⟨_, _, rfl, Nat.zero_le _, rfl, ?_⟩ | refine ⟨_, _, rfl, ?_, ?_⟩ | refine ⟨_, rfl, ?_⟩ | refine Or.inr (Or.inr (Or.inr ⟨_, _, rfl, ?_⟩)) | exact Or.inl rfl | refine Or.inr ?_)), (by repeat' (first | exact rfl | exact trivial | exact Or.inr (Or.inl ⟨_, rfl⟩) | exact Or.inr ⟨_, rfl⟩ | exact Or.inl ⟨rfl, rfl⟩ | exact Or.inl rfl | refine Or.inr ⟨_, _, rfl, Nat.zero_le _, rfl, ?_⟩ | refine ⟨_, _, rfl, ?_, ?_⟩ | refine ⟨_, rfl, ?_⟩ | refine Or.inr (Or.inr (Or.inr ⟨_, _, rfl, ?_⟩)) | exact Or.inl rfl | refine Or.inr ?_)), chkR_mk (tk := []) (f := labelF lab) hS (fun _ => rfl)⟩
    have hb : (labelF lab).1 = 0 := by simpa using hb
    have hP : partWd ⟨nm, false, lab, wide, ck, cn, ca, cl⟩ = coarseF ⟨nm, false, lab, wide, ck, cn, ca, cl⟩ := by simp only [partWd, if_neg hw]; rw [if_neg (by simp [hb])]
    rw [hP] at hS
    refine call_p (enters_of Tryz.func204 (by decide +kernel) rfl) (hcoa) (by repeat' (first | exact rfl | exact trivial | exact Or.inr (Or.inl ⟨_, rfl⟩) | exact Or.inr ⟨_, rfl⟩ | exact Or.inl ⟨rfl, rfl⟩ | exact Or.inl rfl | refine Or.inr ⟨_, _, rfl, Nat.zero_le _, rfl, ?_⟩ | refine ⟨_, _, rfl, ?_, ?_⟩ | refine ⟨_, rfl, ?_⟩ | refine Or.inr (Or.inr (Or.inr ⟨_, _, rfl, ?_⟩)) | exact Or.inl rfl | refine Or.inr ?_)) rfl ?_
    refine br (fun hc => ?_) (fun hc => ?_)
    · have hc : (coarseF ⟨nm, false, lab, wide, ck, cn, ca, cl⟩).1 ≠ 0 := by simpa using hc
      rw [if_pos hc] at hS
      exact ⟨_, _, (by repeat' (first | exact rfl | exact trivial | exact Or.inr (Or.inl ⟨_, rfl⟩) | exact Or.inr ⟨_, rfl⟩ | exact Or.inl ⟨rfl, rfl⟩ | exact Or.inl rfl | refine Or.inr ⟨_, _, rfl, Nat.zero_le _, rfl, ?_⟩ | refine ⟨_, _, rfl, ?_, ?_⟩ | refine ⟨_, rfl, ?_⟩ | refine Or.inr (Or.inr (Or.inr ⟨_, _, rfl, ?_⟩)) | exact Or.inl rfl | refine Or.inr ?_)), (by repeat' (first | exact rfl | exact trivial | exact Or.inr (Or.inl ⟨_, rfl⟩) | exact Or.inr ⟨_, rfl⟩ | exact Or.inl ⟨rfl, rfl⟩ | exact Or.inl rfl | refine Or.inr ⟨_, _, rfl, Nat.zero_le _, rfl, ?_⟩ | refine ⟨_, _, rfl, ?_, ?_⟩ | refine ⟨_, rfl, ?_⟩ | refine Or.inr (Or.inr (Or.inr ⟨_, _, rfl, ?_⟩)) | exact Or.inl rfl | refine Or.inr ?_)), chkR_mk (tk := []) (f := coarseF ⟨nm, false, lab, wide, ck, cn, ca, cl⟩) hS (fun _ => rfl)⟩
    have hc : (coarseF ⟨nm, false, lab, wide, ck, cn, ca, cl⟩).1 = 0 := by simpa using hc
    rw [if_neg (by simp [hc])] at hS
    refine call_o (enters_of Tryz.func125 (by decide +kernel) rfl) rfl rfl (by repeat' (first | exact rfl | exact trivial | exact Or.inr (Or.inl ⟨_, rfl⟩) | exact Or.inr ⟨_, rfl⟩ | exact Or.inl ⟨rfl, rfl⟩ | exact Or.inl rfl | refine Or.inr ⟨_, _, rfl, Nat.zero_le _, rfl, ?_⟩ | refine ⟨_, _, rfl, ?_, ?_⟩ | refine ⟨_, rfl, ?_⟩ | refine Or.inr (Or.inr (Or.inr ⟨_, _, rfl, ?_⟩)) | exact Or.inl rfl | refine Or.inr ?_)) (by repeat' (first | exact rfl | exact trivial | exact Or.inr (Or.inl ⟨_, rfl⟩) | exact Or.inr ⟨_, rfl⟩ | exact Or.inl ⟨rfl, rfl⟩ | exact Or.inl rfl | refine Or.inr ⟨_, _, rfl, Nat.zero_le _, rfl, ?_⟩ | refine ⟨_, _, rfl, ?_, ?_⟩ | refine ⟨_, rfl, ?_⟩ | exact congrArg (fun z => DV.v (.int .i64 z)) (wrap64 (by omega) (by omega)) | refine Or.inr (Or.inr (Or.inr ⟨_, _, rfl, ?_⟩)) | exact Or.inl rfl | refine Or.inr ?_)) hih chkR_cl (fun r cs2 hr => ?_)
    obtain ⟨rfl, z, hz, hzz⟩ := hr
    simp only [List.cons.injEq, and_true] at hz
    subst hz
    exact ⟨_, _, (by repeat' (first | exact rfl | exact trivial | exact Or.inr (Or.inl ⟨_, rfl⟩) | exact Or.inr ⟨_, rfl⟩ | exact Or.inl ⟨rfl, rfl⟩ | exact Or.inl rfl | refine Or.inr ⟨_, _, rfl, Nat.zero_le _, rfl, ?_⟩ | refine ⟨_, _, rfl, ?_, ?_⟩ | refine ⟨_, rfl, ?_⟩ | refine Or.inr (Or.inr (Or.inr ⟨_, _, rfl, ?_⟩)) | exact Or.inl rfl | refine Or.inr ?_)), (by repeat' (first | exact rfl | exact trivial | exact Or.inr (Or.inl ⟨_, rfl⟩) | exact Or.inr ⟨_, rfl⟩ | exact Or.inl ⟨rfl, rfl⟩ | exact Or.inl rfl | refine Or.inr ⟨_, _, rfl, Nat.zero_le _, rfl, ?_⟩ | refine ⟨_, _, rfl, ?_, ?_⟩ | refine ⟨_, rfl, ?_⟩ | refine Or.inr (Or.inr (Or.inr ⟨_, _, rfl, ?_⟩)) | exact Or.inl rfl | refine Or.inr ?_)), chkR_mk (tk := []) (f := (wrong (.mk u us) (depth + 1) m).1) hS hzz⟩
end Go.Proofs.YtmphiikdhifhjaaGreat
set_option maxRecDepth 100000
namespace Go.Proofs.YtmphiikdhifhjaaGreat
open Go Go.RowKit Dv Tryz

theorem wrongPts_part {kind : Int} {all : List Wd} {i : Nat} {p : Ph} {t : Ty} {r : Pts} {depth m : Int} (hk : kind = 7 ∨ kind = 8) (hl : listedF all i p.name = 0) :
    wrongPts kind all i (.cons p t r) depth m = if (partF p t (decide (kind = 8)) depth m).1.1 ≠ 0 then partF p t (decide (kind = 8)) depth m else wrongPts kind all (i + 1) r depth (partF p t (decide (kind = 8)) depth m).2 := by
  simp only [wrongPts]
  rw [if_neg (by simp [hl])]
  unfold partF
  by_cases hb : p.bare = true
  · rw [if_pos hb, if_pos hb, bare_eq]
    by_cases h7 : kind = 7
    · subst h7
      rw [if_pos (.inl rfl), if_pos (c := decide ((7 : Int) = 8) = false ∨ _) (.inl (by simp)), if_pos (by simp)]
    · have h8 : kind = 8 := by omega
      subst h8
      by_cases h : sameTy t zeroTy = false ∨ plainP p barePh = false
      · have h' : decide ((8 : Int) = 8) = false ∨ (plainP p barePh && sameTy t zeroTy) = false := .inr (by rcases h with h | h <;> simp [h])
        rw [if_pos (.inr h), if_pos h', if_pos (by simp)]
      · have h1 : sameTy t zeroTy = true := by
          cases hc : sameTy t zeroTy
          · exact absurd (.inl hc) h
          · rfl
        have h2 : plainP p barePh = true := by
          cases hc : plainP p barePh
          · exact absurd (.inr hc) h
          · rfl
        have h' : ¬ (decide ((8 : Int) = 8) = false ∨ (plainP p barePh && sameTy t zeroTy) = false) := by simp [h1, h2]
        rw [if_neg (by simp [h1, h2]), if_neg h', if_neg (by simp)]
  · rw [if_neg hb, if_neg hb]
    by_cases hP : (partWd p).1 ≠ 0
    · rw [if_pos hP, if_pos hP, if_pos hP]
    · rw [if_neg hP, if_neg hP]

theorem partF_ok {p : Ph} {t : Ty} {un : Bool} {depth m : Int} (hm0 : 0 ≤ m) (hm1 : m ≤ 512) (h : (partF p t un depth m).1.1 = 0) : (partF p t un depth m).1 = (0, 0) ∧ 0 ≤ (partF p t un depth m).2 ∧ (partF p t un depth m).2 ≤ 512 := by
  have hw := wrong_ok t (depth + 1) m hm0
  unfold partF at h ⊢
  by_cases hb : p.bare = true
  · rw [if_pos hb] at h ⊢
    split at h
    · simp at h
    · rename_i hc
      rw [if_neg hc]
      exact ⟨rfl, hm0, hm1⟩
  · rw [if_neg hb] at h ⊢
    by_cases hP : (partWd p).1 ≠ 0
    · rw [if_pos hP] at h; exact absurd h hP
    · rw [if_neg hP] at h ⊢
      exact hw h

abbrev kpartsSt (h : Hd) (ps : Pts) (n e : Nat) (depth m : Int) : St :=
  ⟨[(0, ⟨[], .loc 0 0⟩), (2, ⟨[], .v (.int .i64 depth)⟩), (4, ⟨[], .loc 1 0⟩), (6, ⟨[], .loc 2 0⟩), (38, ⟨[], .sl 18 (dPts ps) none⟩), (39, ⟨[], .v (.int .i64 (dPts ps).length)⟩), (40, ⟨[], .v (.int .i64 e)⟩), (7, ⟨[], .sl 1 (dBs (nmTx ((pNames ps).take e))) (some 0)⟩)],
   [[.v (.int .i64 m)], dTy (.mk h ps), [.v (.int .i64 0), .v (.int .i64 0)]], [⟨n, 9, 1, none⟩]⟩

theorem kparts_spec (k : Nat) (ih : KChk k) (h : Hd) (ps : Pts) (depth m : Int) (hkd : h.kind = 7 ∨ h.kind = 8) (hk : ps.wt ≤ k) (hbig : (Ty.mk h ps).wt ≤ 1099511627776) (hd0 : 0 ≤ depth) (hd1 : depth ≤ 24) (hm0 : 0 ≤ m) (hm1 : m ≤ 512) :
    Ev Tryz.prog 168 [.loc 0 0, .agg (dTy (.mk h ps)), .v (.int .i64 depth)] [[.v (.int .i64 m)]] [] (ChkR (partsF h ps depth m)) := by
  simp only [Ty.wt, Hd.wt] at hbig
  have hpl := ps.wt_len
  have hnl := pNames_len ps
  have hnw := pNames_wt ps
  have hS := partsF.eq_def h ps depth m
  generalize partsF h ps depth m = F at hS ⊢
  refine ev_go (P := Tryz.prog) tt tt_ok 5000 72 [.cell 6 33] Tryz.func168 rfl Tryz.ntmps168 rfl (Nat.le_of_ble_eq_true rfl) (fun E9 w9 hn9 hm9 => ?_)
  refine br (fun c1 => ?_) (fun c1 => ?_)
  · have c1 : h.kind = 8 ∧ ps.len = 0 := by
      simp [pickB_and, dPts_len] at c1
      exact ⟨c1.1, by omega⟩
    rw [if_pos c1] at hS
    refine call_p (enters_of Tryz.func164 (by decide +kernel) rfl) (bad_spec 15 h.at') (by repeat' (first | exact rfl | exact trivial | exact Or.inr (Or.inl ⟨_, rfl⟩) | exact Or.inr ⟨_, rfl⟩ | exact Or.inl ⟨rfl, rfl⟩ | exact Or.inl rfl | refine Or.inr ⟨_, _, rfl, Nat.zero_le _, rfl, ?_⟩ | refine ⟨_, _, rfl, ?_, ?_⟩ | refine ⟨_, rfl, ?_⟩ | refine Or.inr (Or.inr (Or.inr ⟨_, _, rfl, ?_⟩)) | exact Or.inl rfl | refine Or.inr ?_)) rfl ?_
    exact ⟨_, _, (by repeat' (first | exact rfl | exact trivial | exact Or.inr (Or.inl ⟨_, rfl⟩) | exact Or.inr ⟨_, rfl⟩ | exact Or.inl ⟨rfl, rfl⟩ | exact Or.inl rfl | refine Or.inr ⟨_, _, rfl, Nat.zero_le _, rfl, ?_⟩ | refine ⟨_, _, rfl, ?_, ?_⟩ | refine ⟨_, rfl, ?_⟩ | refine Or.inr (Or.inr (Or.inr ⟨_, _, rfl, ?_⟩)) | exact Or.inl rfl | refine Or.inr ?_)), (by repeat' (first | exact rfl | exact trivial | exact Or.inr (Or.inl ⟨_, rfl⟩) | exact Or.inr ⟨_, rfl⟩ | exact Or.inl ⟨rfl, rfl⟩ | exact Or.inl rfl | refine Or.inr ⟨_, _, rfl, Nat.zero_le _, rfl, ?_⟩ | refine ⟨_, _, rfl, ?_, ?_⟩ | refine ⟨_, rfl, ?_⟩ | refine Or.inr (Or.inr (Or.inr ⟨_, _, rfl, ?_⟩)) | exact Or.inl rfl | refine Or.inr ?_)), chkR_mk (tk := []) (f := (15, h.at')) hS (fun _ => rfl)⟩
  have c1 : ¬ (h.kind = 8 ∧ ps.len = 0) := by
    simp [pickB_and, dPts_len] at c1
    omega
  rw [if_neg c1] at hS
  refine br (fun c2 => ?_) (fun c2 => ?_)
  · have hlt : 64 < ps.len := by simp [dPts_len] at c2; omega
    obtain ⟨p, t, hx⟩ := Pts.get_lt hlt
    refine ⟨_, ⟨by omega, dPts_get hx⟩, ?_⟩
    refine call_p (enters_of Tryz.func164 (by decide +kernel) rfl) (bad_spec 8 p.name.a) (by repeat' (first | exact rfl | exact trivial | exact Or.inr (Or.inl ⟨_, rfl⟩) | exact Or.inr ⟨_, rfl⟩ | exact Or.inl ⟨rfl, rfl⟩ | exact Or.inl rfl | refine Or.inr ⟨_, _, rfl, Nat.zero_le _, rfl, ?_⟩ | refine ⟨_, _, rfl, ?_, ?_⟩ | refine ⟨_, rfl, ?_⟩ | refine Or.inr (Or.inr (Or.inr ⟨_, _, rfl, ?_⟩)) | exact Or.inl rfl | refine Or.inr ?_)) rfl ?_
    rw [if_pos hlt, pNames_get hx] at hS
    exact ⟨_, _, (by repeat' (first | exact rfl | exact trivial | exact Or.inr (Or.inl ⟨_, rfl⟩) | exact Or.inr ⟨_, rfl⟩ | exact Or.inl ⟨rfl, rfl⟩ | exact Or.inl rfl | refine Or.inr ⟨_, _, rfl, Nat.zero_le _, rfl, ?_⟩ | refine ⟨_, _, rfl, ?_, ?_⟩ | refine ⟨_, rfl, ?_⟩ | refine Or.inr (Or.inr (Or.inr ⟨_, _, rfl, ?_⟩)) | exact Or.inl rfl | refine Or.inr ?_)), (by repeat' (first | exact rfl | exact trivial | exact Or.inr (Or.inl ⟨_, rfl⟩) | exact Or.inr ⟨_, rfl⟩ | exact Or.inl ⟨rfl, rfl⟩ | exact Or.inl rfl | refine Or.inr ⟨_, _, rfl, Nat.zero_le _, rfl, ?_⟩ | refine ⟨_, _, rfl, ?_, ?_⟩ | refine ⟨_, rfl, ?_⟩ | refine Or.inr (Or.inr (Or.inr ⟨_, _, rfl, ?_⟩)) | exact Or.inl rfl | refine Or.inr ?_)), chkR_mk (tk := []) (f := (8, p.name.a)) hS (fun _ => rfl)⟩
  have c2 : ¬ 64 < ps.len := by simp [dPts_len] at c2; omega
  rw [if_neg c2] at hS
  refine loop_i (fun j st => ∃ (e : Nat) (m' : Int), st = kpartsSt h ps e e depth m' ∧ e ≤ ps.len ∧ 0 ≤ m' ∧ m' ≤ 512 ∧ (nmTx ((pNames ps).take e)).Nodup ∧
      F = wrongPts h.kind (pNames ps) e (ps.drop e) depth m' ∧ j = ps.len - e) ps.len (kpartsSt h ps 0 0 depth m) (weak_tok ⟨0, 9, 1, none⟩ rfl ⟨_, rfl⟩ rfl (by repeat' (first | exact rfl | exact we_rfl rfl | refine ⟨_, _, rfl, ?_, ?_⟩)) rfl rfl (by repeat' (first | exact trivial | exact we_rfl rfl | exact we_rfl rfl | exact we_tok (Nat.le_refl _) rfl | refine ⟨⟨_, rfl, ?_⟩, ?_⟩))) ⟨0, m, rfl, by omega, hm0, hm1, by simp [nmTx], hS, by omega⟩ ?_
  rintro j st ⟨e, m', rfl, he, hm0', hm1', hnd, heq, rfl⟩
  refine br (fun hL => ?_) (fun hL => ?_)
  · have hlt : e < ps.len := by simpa [dPts_len] using hL
    obtain ⟨p, t, hx⟩ := Pts.get_lt hlt
    have hwt := Pts.wt_mem (List.mem_of_getElem? hx)
    have hnx := pNames_get hx
    have hpw : p.name.s.size + 64 ≤ p.wt := by simp only [Ph.wt, Wd.wt]; omega
    rw [Pts.drop_cons hx] at heq
    have hlast : (nmTx ((pNames ps).take (e + 1)))[(nmTx ((pNames ps).take (e + 1))).length - 1]? = some p.name.s := by
      have hl1 : (nmTx ((pNames ps).take (e + 1))).length = e + 1 := by simp [nmTx]; omega
      rw [hl1]
      simp [nmTx, hnx]
    have hsp := listed_spec (nmTx ((pNames ps).take (e + 1))) p.name.s p.name.a hlast (by simp [nmTx]; omega) (by omega)
    have hsn := nmTx_snoc hnx
    rw [listed_eq p.name.a hnx hnd, ← hsn] at hsp
    have hpart := kpart_spec k ih p t (decide (h.kind = 8)) depth m' (by omega) (by omega) (by omega) hd0 hd1 hm0' hm1'
    obtain ⟨u, us⟩ := t
    refine ⟨_, ⟨by omega, dPts_get hx⟩, ?_⟩
    refine ⟨by simp [dBs_len, nmTx]; omega, ⟨by simp [dBs_len, nmTx, maxLen]; omega, by simp [dBs_len, nmTx]; omega⟩, ?_⟩
    refine call_p (enters_of Tryz.func190 (by decide +kernel) rfl) (hsp) (by repeat' (first | exact rfl | exact trivial | exact Or.inr (Or.inl ⟨_, rfl⟩) | exact Or.inr ⟨_, rfl⟩ | exact Or.inl ⟨rfl, rfl⟩ | exact Or.inl rfl | refine Or.inr ⟨_, _, rfl, Nat.zero_le _, rfl, ?_⟩ | refine ⟨_, _, rfl, ?_, ?_⟩ | refine ⟨_, rfl, ?_⟩ | refine Or.inr (Or.inr (Or.inr ⟨_, _, rfl, ?_⟩)) | exact Or.inl rfl | refine Or.inr ?_)) rfl ?_
    by_cases hl : listedF (pNames ps) e p.name ≠ 0
    · rw [if_pos hl]
      refine br (fun hf => ?_) (fun hf => ?_)
      · simp only [wrongPts] at heq
        rw [if_pos hl] at heq
        exact ⟨_, _, (by repeat' (first | exact rfl | exact trivial | exact Or.inr (Or.inl ⟨_, rfl⟩) | exact Or.inr ⟨_, rfl⟩ | exact Or.inl ⟨rfl, rfl⟩ | exact Or.inl rfl | refine Or.inr ⟨_, _, rfl, Nat.zero_le _, rfl, ?_⟩ | refine ⟨_, _, rfl, ?_, ?_⟩ | refine ⟨_, rfl, ?_⟩ | refine Or.inr (Or.inr (Or.inr ⟨_, _, rfl, ?_⟩)) | exact Or.inl rfl | refine Or.inr ?_)), (by repeat' (first | exact rfl | exact trivial | exact Or.inr (Or.inl ⟨_, rfl⟩) | exact Or.inr ⟨_, rfl⟩ | exact Or.inl ⟨rfl, rfl⟩ | exact Or.inl rfl | refine Or.inr ⟨_, _, rfl, Nat.zero_le _, rfl, ?_⟩ | refine ⟨_, _, rfl, ?_, ?_⟩ | refine ⟨_, rfl, ?_⟩ | refine Or.inr (Or.inr (Or.inr ⟨_, _, rfl, ?_⟩)) | exact Or.inl rfl | refine Or.inr ?_)), chkR_mk (tk := []) (f := (listedF (pNames ps) e p.name, p.name.a)) heq (fun _ => rfl)⟩
      · exact absurd (by simpa using hf) hl
    have hl : listedF (pNames ps) e p.name = 0 := by simpa using hl
    have hndn := listed_nodup hnx hnd hl
    rw [if_neg (by simp [hl])]
    rw [wrongPts_part hkd hl] at heq
    have hok := partF_ok (p := p) (t := .mk u us) (un := decide (h.kind = 8)) (depth := depth) hm0' hm1'
    generalize partF p (.mk u us) (decide (h.kind = 8)) depth m' = r at hpart heq hok
    obtain ⟨⟨fe, fa⟩, many⟩ := r
    simp only at heq hok
    refine call_o (enters_of Tryz.func192 (by decide +kernel) rfl) rfl rfl (by repeat' (first | exact rfl | exact trivial | exact Or.inr (Or.inl ⟨_, rfl⟩) | exact Or.inr ⟨_, rfl⟩ | exact Or.inl ⟨rfl, rfl⟩ | exact Or.inl rfl | refine Or.inr ⟨_, _, rfl, Nat.zero_le _, rfl, ?_⟩ | refine ⟨_, _, rfl, ?_, ?_⟩ | refine ⟨_, rfl, ?_⟩ | refine Or.inr (Or.inr (Or.inr ⟨_, _, rfl, ?_⟩)) | exact Or.inl rfl | refine Or.inr ?_)) (by repeat' (first | exact rfl | exact trivial | exact Or.inr (Or.inl ⟨_, rfl⟩) | exact Or.inr ⟨_, rfl⟩ | exact Or.inl ⟨rfl, rfl⟩ | exact Or.inl rfl | refine Or.inr ⟨_, _, rfl, Nat.zero_le _, rfl, ?_⟩ | refine ⟨_, _, rfl, ?_, ?_⟩ | refine ⟨_, rfl, ?_⟩ | refine Or.inr (Or.inr (Or.inr ⟨_, _, rfl, ?_⟩)) | exact Or.inl rfl | refine Or.inr ?_)) hpart chkR_cl (fun r cs2 hr => ?_)
    obtain ⟨rfl, z, hz, hzz⟩ := hr
    simp only [List.cons.injEq, and_true] at hz
    subst hz
    refine br (fun hd => ?_) (fun hd => ?_)
    · have hd : fe ≠ 0 := by simpa using hd
      rw [if_pos hd] at heq
      exact ⟨_, _, (by repeat' (first | exact rfl | exact trivial | exact Or.inr (Or.inl ⟨_, rfl⟩) | exact Or.inr ⟨_, rfl⟩ | exact Or.inl ⟨rfl, rfl⟩ | exact Or.inl rfl | refine Or.inr ⟨_, _, rfl, Nat.zero_le _, rfl, ?_⟩ | refine ⟨_, _, rfl, ?_, ?_⟩ | refine ⟨_, rfl, ?_⟩ | refine Or.inr (Or.inr (Or.inr ⟨_, _, rfl, ?_⟩)) | exact Or.inl rfl | refine Or.inr ?_)), (by repeat' (first | exact rfl | exact trivial | exact Or.inr (Or.inl ⟨_, rfl⟩) | exact Or.inr ⟨_, rfl⟩ | exact Or.inl ⟨rfl, rfl⟩ | exact Or.inl rfl | refine Or.inr ⟨_, _, rfl, Nat.zero_le _, rfl, ?_⟩ | refine ⟨_, _, rfl, ?_, ?_⟩ | refine ⟨_, rfl, ?_⟩ | refine Or.inr (Or.inr (Or.inr ⟨_, _, rfl, ?_⟩)) | exact Or.inl rfl | refine Or.inr ?_)), chkR_mk (tk := []) (f := (fe, fa)) heq (fun h0 => absurd h0 hd)⟩
    · have hd : fe = 0 := by simpa using hd
      subst hd
      obtain ⟨_, h2, h3⟩ := hok rfl
      rw [if_neg (by simp)] at heq
      have hz2 : z = many := hzz rfl
      subst hz2
      exact ⟨kpartsSt h ps (e + 1) (e + 1) depth z, (weak_mk ⟨_, rfl⟩ (by repeat' (first | exact rfl | exact we_rfl rfl | refine ⟨_, _, rfl, ?_, ?_⟩)) rfl rfl rfl (by repeat' (first | exact trivial | exact we_rfl rfl | exact we_int (nxt hlt (by omega)) | exact we_sl hsn rfl | refine ⟨⟨_, rfl, ?_⟩, ?_⟩))), ps.len - (e + 1), by omega, e + 1, z, rfl, by omega, h2, h3, hndn, heq, rfl⟩
  · have hge : e = ps.len := by simp [dPts_len] at hL; omega
    rw [hge, Pts.drop_len] at heq
    simp only [wrongPts] at heq
    exact ⟨_, _, (by repeat' (first | exact rfl | exact trivial | exact Or.inr (Or.inl ⟨_, rfl⟩) | exact Or.inr ⟨_, rfl⟩ | exact Or.inl ⟨rfl, rfl⟩ | exact Or.inl rfl | refine Or.inr ⟨_, _, rfl, Nat.zero_le _, rfl, ?_⟩ | refine ⟨_, _, rfl, ?_, ?_⟩ | refine ⟨_, rfl, ?_⟩ | refine Or.inr (Or.inr (Or.inr ⟨_, _, rfl, ?_⟩)) | exact Or.inl rfl | refine Or.inr ?_)), (by repeat' (first | exact rfl | exact trivial | exact Or.inr (Or.inl ⟨_, rfl⟩) | exact Or.inr ⟨_, rfl⟩ | exact Or.inl ⟨rfl, rfl⟩ | exact Or.inl rfl | refine Or.inr ⟨_, _, rfl, Nat.zero_le _, rfl, ?_⟩ | refine ⟨_, _, rfl, ?_, ?_⟩ | refine ⟨_, rfl, ?_⟩ | refine Or.inr (Or.inr (Or.inr ⟨_, _, rfl, ?_⟩)) | exact Or.inl rfl | refine Or.inr ?_)), chkR_mk (tk := []) (f := (0, 0)) heq (fun _ => rfl)⟩
end Go.Proofs.YtmphiikdhifhjaaGreat
set_option maxRecDepth 100000
namespace Go.Proofs.YtmphiikdhifhjaaGreat
open Go Go.RowKit Dv Tryz

theorem kone_spec (k : Nat) (ih : KChk k) (h : Hd) (ps : Pts) (depth m : Int) (hk : ps.wt ≤ k) (hbig : (Ty.mk h ps).wt ≤ 1099511627776) (hd0 : 0 ≤ depth) (hd1 : depth ≤ 24) (hm0 : 0 ≤ m) (hm1 : m ≤ 512) :
    Ev Tryz.prog 167 [.loc 0 0, .agg (dTy (.mk h ps)), .v (.int .i64 depth)] [[.v (.int .i64 m)]] [] (ChkR (wrongOne h ps depth m)) := by
  simp only [Ty.wt, Hd.wt] at hbig
  cases ps with
  | nil =>
    have hS : wrongOne h .nil depth m = ((19, h.at'), m) := by simp only [wrongOne]
    generalize wrongOne h .nil depth m = F at hS ⊢
    refine ev_go (P := Tryz.prog) tt tt_ok 5000 44 [.cell 6 33] Tryz.func167 rfl Tryz.ntmps167 rfl (Nat.le_of_ble_eq_true rfl) (fun E9 w9 hn9 hm9 => ?_)
    refine call_p (enters_of Tryz.func164 (by decide +kernel) rfl) (bad_spec 19 h.at') (by repeat' (first | exact rfl | exact trivial | exact Or.inr (Or.inl ⟨_, rfl⟩) | exact Or.inr ⟨_, rfl⟩ | exact Or.inl ⟨rfl, rfl⟩ | exact Or.inl rfl | refine Or.inr ⟨_, _, rfl, Nat.zero_le _, rfl, ?_⟩ | refine ⟨_, _, rfl, ?_, ?_⟩ | refine ⟨_, rfl, ?_⟩ | refine Or.inr (Or.inr (Or.inr ⟨_, _, rfl, ?_⟩)) | exact Or.inl rfl | refine Or.inr ?_)) rfl ?_
    exact ⟨_, _, (by repeat' (first | exact rfl | exact trivial | exact Or.inr (Or.inl ⟨_, rfl⟩) | exact Or.inr ⟨_, rfl⟩ | exact Or.inl ⟨rfl, rfl⟩ | exact Or.inl rfl | refine Or.inr ⟨_, _, rfl, Nat.zero_le _, rfl, ?_⟩ | refine ⟨_, _, rfl, ?_, ?_⟩ | refine ⟨_, rfl, ?_⟩ | refine Or.inr (Or.inr (Or.inr ⟨_, _, rfl, ?_⟩)) | exact Or.inl rfl | refine Or.inr ?_)), (by repeat' (first | exact rfl | exact trivial | exact Or.inr (Or.inl ⟨_, rfl⟩) | exact Or.inr ⟨_, rfl⟩ | exact Or.inl ⟨rfl, rfl⟩ | exact Or.inl rfl | refine Or.inr ⟨_, _, rfl, Nat.zero_le _, rfl, ?_⟩ | refine ⟨_, _, rfl, ?_, ?_⟩ | refine ⟨_, rfl, ?_⟩ | refine Or.inr (Or.inr (Or.inr ⟨_, _, rfl, ?_⟩)) | exact Or.inl rfl | refine Or.inr ?_)), chkR_mk (tk := []) (f := (19, h.at')) hS (fun _ => rfl)⟩
  | cons p t r =>
    cases r with
    | cons p2 t2 r2 =>
      have hS : wrongOne h (.cons p t (.cons p2 t2 r2)) depth m = ((19, h.at'), m) := by simp only [wrongOne]
      generalize wrongOne h (.cons p t (.cons p2 t2 r2)) depth m = F at hS ⊢
      refine ev_go (P := Tryz.prog) tt tt_ok 5000 44 [.cell 6 33] Tryz.func167 rfl Tryz.ntmps167 rfl (Nat.le_of_ble_eq_true rfl) (fun E9 w9 hn9 hm9 => ?_)
      refine call_p (enters_of Tryz.func164 (by decide +kernel) rfl) (bad_spec 19 h.at') (by repeat' (first | exact rfl | exact trivial | exact Or.inr (Or.inl ⟨_, rfl⟩) | exact Or.inr ⟨_, rfl⟩ | exact Or.inl ⟨rfl, rfl⟩ | exact Or.inl rfl | refine Or.inr ⟨_, _, rfl, Nat.zero_le _, rfl, ?_⟩ | refine ⟨_, _, rfl, ?_, ?_⟩ | refine ⟨_, rfl, ?_⟩ | refine Or.inr (Or.inr (Or.inr ⟨_, _, rfl, ?_⟩)) | exact Or.inl rfl | refine Or.inr ?_)) rfl ?_
      exact ⟨_, _, (by repeat' (first | exact rfl | exact trivial | exact Or.inr (Or.inl ⟨_, rfl⟩) | exact Or.inr ⟨_, rfl⟩ | exact Or.inl ⟨rfl, rfl⟩ | exact Or.inl rfl | refine Or.inr ⟨_, _, rfl, Nat.zero_le _, rfl, ?_⟩ | refine ⟨_, _, rfl, ?_, ?_⟩ | refine ⟨_, rfl, ?_⟩ | refine Or.inr (Or.inr (Or.inr ⟨_, _, rfl, ?_⟩)) | exact Or.inl rfl | refine Or.inr ?_)), (by repeat' (first | exact rfl | exact trivial | exact Or.inr (Or.inl ⟨_, rfl⟩) | exact Or.inr ⟨_, rfl⟩ | exact Or.inl ⟨rfl, rfl⟩ | exact Or.inl rfl | refine Or.inr ⟨_, _, rfl, Nat.zero_le _, rfl, ?_⟩ | refine ⟨_, _, rfl, ?_, ?_⟩ | refine ⟨_, rfl, ?_⟩ | refine Or.inr (Or.inr (Or.inr ⟨_, _, rfl, ?_⟩)) | exact Or.inl rfl | refine Or.inr ?_)), chkR_mk (tk := []) (f := (19, h.at')) hS (fun _ => rfl)⟩
    | nil =>
      simp only [Pts.wt] at hbig hk
      have hS : wrongOne h (.cons p t .nil) depth m = if p.name.s ≠ emptyB ∨ plainP p zeroPh = false then ((19, h.at'), m) else if h.most < 0 ∨ 1024 < h.most then ((20, h.at'), m) else wrong t (depth + 1) m := by simp only [wrongOne]
      generalize wrongOne h (.cons p t .nil) depth m = F at hS ⊢
      have hem := kempty_spec p t (by omega)
      rw [empty_eq] at hem
      have hih := ih t (depth + 1) m (by omega) (by omega) (by omega) (by omega) hm0 hm1
      obtain ⟨u, us⟩ := t
      refine ev_go (P := Tryz.prog) tt tt_ok 5000 44 [.cell 6 33] Tryz.func167 rfl Tryz.ntmps167 rfl (Nat.le_of_ble_eq_true rfl) (fun E9 w9 hn9 hm9 => ?_)
      refine ⟨_, ⟨by omega, rfl⟩, ?_⟩
      refine call_p (enters_of Tryz.func191 (by decide +kernel) rfl) (hem) (by repeat' (first | exact rfl | exact trivial | exact Or.inr (Or.inl ⟨_, rfl⟩) | exact Or.inr ⟨_, rfl⟩ | exact Or.inl ⟨rfl, rfl⟩ | exact Or.inl rfl | refine Or.inr ⟨_, _, rfl, Nat.zero_le _, rfl, ?_⟩ | refine ⟨_, _, rfl, ?_, ?_⟩ | refine ⟨_, rfl, ?_⟩ | refine Or.inr (Or.inr (Or.inr ⟨_, _, rfl, ?_⟩)) | exact Or.inl rfl | refine Or.inr ?_)) rfl ?_
      refine br (fun q => ?_) (fun q => ?_)
      · have q : p.name.s ≠ emptyB ∨ plainP p zeroPh = false := by
          have := q
          simp [pickB] at this
          exact this
        rw [if_pos q] at hS
        refine call_p (enters_of Tryz.func164 (by decide +kernel) rfl) (bad_spec 19 h.at') (by repeat' (first | exact rfl | exact trivial | exact Or.inr (Or.inl ⟨_, rfl⟩) | exact Or.inr ⟨_, rfl⟩ | exact Or.inl ⟨rfl, rfl⟩ | exact Or.inl rfl | refine Or.inr ⟨_, _, rfl, Nat.zero_le _, rfl, ?_⟩ | refine ⟨_, _, rfl, ?_, ?_⟩ | refine ⟨_, rfl, ?_⟩ | refine Or.inr (Or.inr (Or.inr ⟨_, _, rfl, ?_⟩)) | exact Or.inl rfl | refine Or.inr ?_)) rfl ?_
        exact ⟨_, _, (by repeat' (first | exact rfl | exact trivial | exact Or.inr (Or.inl ⟨_, rfl⟩) | exact Or.inr ⟨_, rfl⟩ | exact Or.inl ⟨rfl, rfl⟩ | exact Or.inl rfl | refine Or.inr ⟨_, _, rfl, Nat.zero_le _, rfl, ?_⟩ | refine ⟨_, _, rfl, ?_, ?_⟩ | refine ⟨_, rfl, ?_⟩ | refine Or.inr (Or.inr (Or.inr ⟨_, _, rfl, ?_⟩)) | exact Or.inl rfl | refine Or.inr ?_)), (by repeat' (first | exact rfl | exact trivial | exact Or.inr (Or.inl ⟨_, rfl⟩) | exact Or.inr ⟨_, rfl⟩ | exact Or.inl ⟨rfl, rfl⟩ | exact Or.inl rfl | refine Or.inr ⟨_, _, rfl, Nat.zero_le _, rfl, ?_⟩ | refine ⟨_, _, rfl, ?_, ?_⟩ | refine ⟨_, rfl, ?_⟩ | refine Or.inr (Or.inr (Or.inr ⟨_, _, rfl, ?_⟩)) | exact Or.inl rfl | refine Or.inr ?_)), chkR_mk (tk := []) (f := (19, h.at')) hS (fun _ => rfl)⟩
      have q : ¬ (p.name.s ≠ emptyB ∨ plainP p zeroPh = false) := by
        have := q
        simp [pickB] at this
        simp [this.1, this.2]
      rw [if_neg q] at hS
      refine br (fun x => ?_) (fun x => ?_)
      · have x : h.most < 0 ∨ 1024 < h.most := by simpa [pickB_or] using x
        rw [if_pos x] at hS
        refine call_p (enters_of Tryz.func164 (by decide +kernel) rfl) (bad_spec 20 h.at') (by repeat' (first | exact rfl | exact trivial | exact Or.inr (Or.inl ⟨_, rfl⟩) | exact Or.inr ⟨_, rfl⟩ | exact Or.inl ⟨rfl, rfl⟩ | exact Or.inl rfl | refine Or.inr ⟨_, _, rfl, Nat.zero_le _, rfl, ?_⟩ | refine ⟨_, _, rfl, ?_, ?_⟩ | refine ⟨_, rfl, ?_⟩ | refine Or.inr (Or.inr (Or.inr ⟨_, _, rfl, ?_⟩)) | exact Or.inl rfl | refine Or.inr ?_)) rfl ?_
        exact ⟨_, _, (by repeat' (first | exact rfl | exact trivial | exact Or.inr (Or.inl ⟨_, rfl⟩) | exact Or.inr ⟨_, rfl⟩ | exact Or.inl ⟨rfl, rfl⟩ | exact Or.inl rfl | refine Or.inr ⟨_, _, rfl, Nat.zero_le _, rfl, ?_⟩ | refine ⟨_, _, rfl, ?_, ?_⟩ | refine ⟨_, rfl, ?_⟩ | refine Or.inr (Or.inr (Or.inr ⟨_, _, rfl, ?_⟩)) | exact Or.inl rfl | refine Or.inr ?_)), (by repeat' (first | exact rfl | exact trivial | exact Or.inr (Or.inl ⟨_, rfl⟩) | exact Or.inr ⟨_, rfl⟩ | exact Or.inl ⟨rfl, rfl⟩ | exact Or.inl rfl | refine Or.inr ⟨_, _, rfl, Nat.zero_le _, rfl, ?_⟩ | refine ⟨_, _, rfl, ?_, ?_⟩ | refine ⟨_, rfl, ?_⟩ | refine Or.inr (Or.inr (Or.inr ⟨_, _, rfl, ?_⟩)) | exact Or.inl rfl | refine Or.inr ?_)), chkR_mk (tk := []) (f := (20, h.at')) hS (fun _ => rfl)⟩
      have x : ¬ (h.most < 0 ∨ 1024 < h.most) := by simp [pickB_or] at x; omega
      rw [if_neg x] at hS
      refine ⟨_, ⟨by omega, rfl⟩, ?_⟩
      refine call_o (enters_of Tryz.func125 (by decide +kernel) rfl) rfl rfl (by repeat' (first | exact rfl | exact trivial | exact Or.inr (Or.inl ⟨_, rfl⟩) | exact Or.inr ⟨_, rfl⟩ | exact Or.inl ⟨rfl, rfl⟩ | exact Or.inl rfl | refine Or.inr ⟨_, _, rfl, Nat.zero_le _, rfl, ?_⟩ | refine ⟨_, _, rfl, ?_, ?_⟩ | refine ⟨_, rfl, ?_⟩ | refine Or.inr (Or.inr (Or.inr ⟨_, _, rfl, ?_⟩)) | exact Or.inl rfl | refine Or.inr ?_)) (by repeat' (first | exact rfl | exact trivial | exact Or.inr (Or.inl ⟨_, rfl⟩) | exact Or.inr ⟨_, rfl⟩ | exact Or.inl ⟨rfl, rfl⟩ | exact Or.inl rfl | refine Or.inr ⟨_, _, rfl, Nat.zero_le _, rfl, ?_⟩ | refine ⟨_, _, rfl, ?_, ?_⟩ | refine ⟨_, rfl, ?_⟩ | exact congrArg (fun z => DV.v (.int .i64 z)) (wrap64 (by omega) (by omega)) | refine Or.inr (Or.inr (Or.inr ⟨_, _, rfl, ?_⟩)) | exact Or.inl rfl | refine Or.inr ?_)) hih chkR_cl (fun r cs2 hr => ?_)
      obtain ⟨rfl, z, hz, hzz⟩ := hr
      simp only [List.cons.injEq, and_true] at hz
      subst hz
      exact ⟨_, _, (by repeat' (first | exact rfl | exact trivial | exact Or.inr (Or.inl ⟨_, rfl⟩) | exact Or.inr ⟨_, rfl⟩ | exact Or.inl ⟨rfl, rfl⟩ | exact Or.inl rfl | refine Or.inr ⟨_, _, rfl, Nat.zero_le _, rfl, ?_⟩ | refine ⟨_, _, rfl, ?_, ?_⟩ | refine ⟨_, rfl, ?_⟩ | refine Or.inr (Or.inr (Or.inr ⟨_, _, rfl, ?_⟩)) | exact Or.inl rfl | refine Or.inr ?_)), (by repeat' (first | exact rfl | exact trivial | exact Or.inr (Or.inl ⟨_, rfl⟩) | exact Or.inr ⟨_, rfl⟩ | exact Or.inl ⟨rfl, rfl⟩ | exact Or.inl rfl | refine Or.inr ⟨_, _, rfl, Nat.zero_le _, rfl, ?_⟩ | refine ⟨_, _, rfl, ?_, ?_⟩ | refine ⟨_, rfl, ?_⟩ | refine Or.inr (Or.inr (Or.inr ⟨_, _, rfl, ?_⟩)) | exact Or.inl rfl | refine Or.inr ?_)), chkR_mk (tk := []) (f := (wrong (.mk u us) (depth + 1) m).1) hS hzz⟩

theorem kcheck_step (k : Nat) (ih : KChk k) (h : Hd) (ps : Pts) (depth m : Int) (hk : ps.wt ≤ k) (hbig : (Ty.mk h ps).wt ≤ 1099511627776) (hd0 : 0 ≤ depth) (hd1 : depth ≤ 25) (hm0 : 0 ≤ m) (hm1 : m ≤ 512) :
    Ev Tryz.prog 125 [.loc 0 0, .agg (dTy (.mk h ps)), .v (.int .i64 depth)] [[.v (.int .i64 m)]] [] (ChkR (wrong (.mk h ps) depth m)) := by
  have hbig' := hbig
  simp only [Ty.wt, Hd.wt] at hbig'
  have hmw : IntKind.i64.wrap (m + 1) = m + 1 := wrap64 (by omega) (by omega)
  have hS := wrong.eq_def (.mk h ps) depth m
  simp only at hS
  generalize wrong (.mk h ps) depth m = F at hS ⊢
  have hown := kown_spec h ps
  rw [ownF_eq] at hown
  refine ev_go (P := Tryz.prog) tt tt_ok 5000 103 [.cell 6 33] Tryz.func125 rfl Tryz.ntmps125 rfl (Nat.le_of_ble_eq_true rfl) (fun E9 w9 hn9 hm9 => ?_)
  refine br (fun c => ?_) (fun c => ?_)
  · have c : 24 < depth := of_decide_eq_true c
    rw [if_pos c] at hS
    refine call_p (enters_of Tryz.func164 (by decide +kernel) rfl) (bad_spec 6 h.at') (by repeat' (first | exact rfl | exact trivial | exact Or.inr (Or.inl ⟨_, rfl⟩) | exact Or.inr ⟨_, rfl⟩ | exact Or.inl ⟨rfl, rfl⟩ | exact Or.inl rfl | refine Or.inr ⟨_, _, rfl, Nat.zero_le _, rfl, ?_⟩ | refine ⟨_, _, rfl, ?_, ?_⟩ | refine ⟨_, rfl, ?_⟩ | refine Or.inr (Or.inr (Or.inr ⟨_, _, rfl, ?_⟩)) | exact Or.inl rfl | refine Or.inr ?_)) rfl ?_
    exact ⟨_, [[.v (.int .i64 (m + 1))]], (by repeat' (first | exact rfl | exact trivial | exact Or.inr (Or.inl ⟨_, rfl⟩) | exact Or.inr ⟨_, rfl⟩ | exact Or.inl ⟨rfl, rfl⟩ | exact Or.inl rfl | refine Or.inr ⟨_, _, rfl, Nat.zero_le _, rfl, ?_⟩ | refine ⟨_, _, rfl, ?_, ?_⟩ | refine ⟨_, rfl, ?_⟩ | refine Or.inr (Or.inr (Or.inr ⟨_, _, rfl, ?_⟩)) | exact Or.inl rfl | refine Or.inr ?_)), (by repeat' (first | exact rfl | exact trivial | exact Or.inr (Or.inl ⟨_, rfl⟩) | exact Or.inr ⟨_, rfl⟩ | exact Or.inl ⟨rfl, rfl⟩ | exact Or.inl rfl | refine Or.inr ⟨_, _, rfl, Nat.zero_le _, rfl, ?_⟩ | refine ⟨_, _, rfl, ?_, ?_⟩ | refine ⟨_, rfl, ?_⟩ | exact congrArg (fun z => DV.v (.int .i64 z)) hmw | refine Or.inr (Or.inr (Or.inr ⟨_, _, rfl, ?_⟩)) | exact Or.inl rfl | refine Or.inr ?_)), chkR_mk (tk := []) (f := (6, h.at')) hS (fun _ => rfl)⟩
  have c : ¬ 24 < depth := of_decide_eq_false c
  rw [if_neg c] at hS
  refine br (fun c => ?_) (fun c => ?_)
  · have c : 512 < IntKind.i64.wrap (m + 1) := of_decide_eq_true c
    rw [hmw] at c
    rw [if_pos c] at hS
    refine call_p (enters_of Tryz.func164 (by decide +kernel) rfl) (bad_spec 8 h.at') (by repeat' (first | exact rfl | exact trivial | exact Or.inr (Or.inl ⟨_, rfl⟩) | exact Or.inr ⟨_, rfl⟩ | exact Or.inl ⟨rfl, rfl⟩ | exact Or.inl rfl | refine Or.inr ⟨_, _, rfl, Nat.zero_le _, rfl, ?_⟩ | refine ⟨_, _, rfl, ?_, ?_⟩ | refine ⟨_, rfl, ?_⟩ | refine Or.inr (Or.inr (Or.inr ⟨_, _, rfl, ?_⟩)) | exact Or.inl rfl | refine Or.inr ?_)) rfl ?_
    exact ⟨_, [[.v (.int .i64 (m + 1))]], (by repeat' (first | exact rfl | exact trivial | exact Or.inr (Or.inl ⟨_, rfl⟩) | exact Or.inr ⟨_, rfl⟩ | exact Or.inl ⟨rfl, rfl⟩ | exact Or.inl rfl | refine Or.inr ⟨_, _, rfl, Nat.zero_le _, rfl, ?_⟩ | refine ⟨_, _, rfl, ?_, ?_⟩ | refine ⟨_, rfl, ?_⟩ | refine Or.inr (Or.inr (Or.inr ⟨_, _, rfl, ?_⟩)) | exact Or.inl rfl | refine Or.inr ?_)), (by repeat' (first | exact rfl | exact trivial | exact Or.inr (Or.inl ⟨_, rfl⟩) | exact Or.inr ⟨_, rfl⟩ | exact Or.inl ⟨rfl, rfl⟩ | exact Or.inl rfl | refine Or.inr ⟨_, _, rfl, Nat.zero_le _, rfl, ?_⟩ | refine ⟨_, _, rfl, ?_, ?_⟩ | refine ⟨_, rfl, ?_⟩ | exact congrArg (fun z => DV.v (.int .i64 z)) hmw | refine Or.inr (Or.inr (Or.inr ⟨_, _, rfl, ?_⟩)) | exact Or.inl rfl | refine Or.inr ?_)), chkR_mk (tk := []) (f := (8, h.at')) hS (fun _ => rfl)⟩
  have c : ¬ 512 < IntKind.i64.wrap (m + 1) := of_decide_eq_false c
  rw [hmw] at c
  rw [if_neg c] at hS
  refine br (fun c => ?_) (fun c => ?_)
  · have c : h.kind < 1 ∨ 9 < h.kind := by simpa [pickB_or] using c
    rw [if_pos c] at hS
    refine call_p (enters_of Tryz.func164 (by decide +kernel) rfl) (bad_spec 14 h.at') (by repeat' (first | exact rfl | exact trivial | exact Or.inr (Or.inl ⟨_, rfl⟩) | exact Or.inr ⟨_, rfl⟩ | exact Or.inl ⟨rfl, rfl⟩ | exact Or.inl rfl | refine Or.inr ⟨_, _, rfl, Nat.zero_le _, rfl, ?_⟩ | refine ⟨_, _, rfl, ?_, ?_⟩ | refine ⟨_, rfl, ?_⟩ | refine Or.inr (Or.inr (Or.inr ⟨_, _, rfl, ?_⟩)) | exact Or.inl rfl | refine Or.inr ?_)) rfl ?_
    exact ⟨_, [[.v (.int .i64 (m + 1))]], (by repeat' (first | exact rfl | exact trivial | exact Or.inr (Or.inl ⟨_, rfl⟩) | exact Or.inr ⟨_, rfl⟩ | exact Or.inl ⟨rfl, rfl⟩ | exact Or.inl rfl | refine Or.inr ⟨_, _, rfl, Nat.zero_le _, rfl, ?_⟩ | refine ⟨_, _, rfl, ?_, ?_⟩ | refine ⟨_, rfl, ?_⟩ | refine Or.inr (Or.inr (Or.inr ⟨_, _, rfl, ?_⟩)) | exact Or.inl rfl | refine Or.inr ?_)), (by repeat' (first | exact rfl | exact trivial | exact Or.inr (Or.inl ⟨_, rfl⟩) | exact Or.inr ⟨_, rfl⟩ | exact Or.inl ⟨rfl, rfl⟩ | exact Or.inl rfl | refine Or.inr ⟨_, _, rfl, Nat.zero_le _, rfl, ?_⟩ | refine ⟨_, _, rfl, ?_, ?_⟩ | refine ⟨_, rfl, ?_⟩ | exact congrArg (fun z => DV.v (.int .i64 z)) hmw | refine Or.inr (Or.inr (Or.inr ⟨_, _, rfl, ?_⟩)) | exact Or.inl rfl | refine Or.inr ?_)), chkR_mk (tk := []) (f := (14, h.at')) hS (fun _ => rfl)⟩
  have ck : ¬ (h.kind < 1 ∨ 9 < h.kind) := by simp [pickB_or] at c; omega
  rw [if_neg ck] at hS
  refine call_p (enters_of Tryz.func165 (by decide +kernel) rfl) (hown) (by repeat' (first | exact rfl | exact trivial | exact Or.inr (Or.inl ⟨_, rfl⟩) | exact Or.inr ⟨_, rfl⟩ | exact Or.inl ⟨rfl, rfl⟩ | exact Or.inl rfl | refine Or.inr ⟨_, _, rfl, Nat.zero_le _, rfl, ?_⟩ | refine ⟨_, _, rfl, ?_, ?_⟩ | refine ⟨_, rfl, ?_⟩ | refine Or.inr (Or.inr (Or.inr ⟨_, _, rfl, ?_⟩)) | exact Or.inl rfl | refine Or.inr ?_)) rfl ?_
  refine br (fun c => ?_) (fun c => ?_)
  · have c : ownB (.mk h ps) = false := by simpa [ownB] using c
    rw [if_pos c] at hS
    refine call_p (enters_of Tryz.func164 (by decide +kernel) rfl) (bad_spec 19 h.at') (by repeat' (first | exact rfl | exact trivial | exact Or.inr (Or.inl ⟨_, rfl⟩) | exact Or.inr ⟨_, rfl⟩ | exact Or.inl ⟨rfl, rfl⟩ | exact Or.inl rfl | refine Or.inr ⟨_, _, rfl, Nat.zero_le _, rfl, ?_⟩ | refine ⟨_, _, rfl, ?_, ?_⟩ | refine ⟨_, rfl, ?_⟩ | refine Or.inr (Or.inr (Or.inr ⟨_, _, rfl, ?_⟩)) | exact Or.inl rfl | refine Or.inr ?_)) rfl ?_
    exact ⟨_, [[.v (.int .i64 (m + 1))]], (by repeat' (first | exact rfl | exact trivial | exact Or.inr (Or.inl ⟨_, rfl⟩) | exact Or.inr ⟨_, rfl⟩ | exact Or.inl ⟨rfl, rfl⟩ | exact Or.inl rfl | refine Or.inr ⟨_, _, rfl, Nat.zero_le _, rfl, ?_⟩ | refine ⟨_, _, rfl, ?_, ?_⟩ | refine ⟨_, rfl, ?_⟩ | refine Or.inr (Or.inr (Or.inr ⟨_, _, rfl, ?_⟩)) | exact Or.inl rfl | refine Or.inr ?_)), (by repeat' (first | exact rfl | exact trivial | exact Or.inr (Or.inl ⟨_, rfl⟩) | exact Or.inr ⟨_, rfl⟩ | exact Or.inl ⟨rfl, rfl⟩ | exact Or.inl rfl | refine Or.inr ⟨_, _, rfl, Nat.zero_le _, rfl, ?_⟩ | refine ⟨_, _, rfl, ?_, ?_⟩ | refine ⟨_, rfl, ?_⟩ | exact congrArg (fun z => DV.v (.int .i64 z)) hmw | refine Or.inr (Or.inr (Or.inr ⟨_, _, rfl, ?_⟩)) | exact Or.inl rfl | refine Or.inr ?_)), chkR_mk (tk := []) (f := (19, h.at')) hS (fun _ => rfl)⟩
  have c : ¬ ownB (.mk h ps) = false := by simpa [ownB] using c
  rw [if_neg c] at hS
  refine br (fun k2 => ?_) (fun k2 => ?_)
  · have k2 : h.kind = 2 := of_decide_eq_true k2
    refine br (fun x => ?_) (fun x => ?_)
    · have x : h.hi < h.lo := of_decide_eq_true x
      rw [if_pos (.inl ⟨k2, x⟩)] at hS
      refine call_p (enters_of Tryz.func164 (by decide +kernel) rfl) (bad_spec 20 h.at') (by repeat' (first | exact rfl | exact trivial | exact Or.inr (Or.inl ⟨_, rfl⟩) | exact Or.inr ⟨_, rfl⟩ | exact Or.inl ⟨rfl, rfl⟩ | exact Or.inl rfl | refine Or.inr ⟨_, _, rfl, Nat.zero_le _, rfl, ?_⟩ | refine ⟨_, _, rfl, ?_, ?_⟩ | refine ⟨_, rfl, ?_⟩ | refine Or.inr (Or.inr (Or.inr ⟨_, _, rfl, ?_⟩)) | exact Or.inl rfl | refine Or.inr ?_)) rfl ?_
      exact ⟨_, [[.v (.int .i64 (m + 1))]], (by repeat' (first | exact rfl | exact trivial | exact Or.inr (Or.inl ⟨_, rfl⟩) | exact Or.inr ⟨_, rfl⟩ | exact Or.inl ⟨rfl, rfl⟩ | exact Or.inl rfl | refine Or.inr ⟨_, _, rfl, Nat.zero_le _, rfl, ?_⟩ | refine ⟨_, _, rfl, ?_, ?_⟩ | refine ⟨_, rfl, ?_⟩ | refine Or.inr (Or.inr (Or.inr ⟨_, _, rfl, ?_⟩)) | exact Or.inl rfl | refine Or.inr ?_)), (by repeat' (first | exact rfl | exact trivial | exact Or.inr (Or.inl ⟨_, rfl⟩) | exact Or.inr ⟨_, rfl⟩ | exact Or.inl ⟨rfl, rfl⟩ | exact Or.inl rfl | refine Or.inr ⟨_, _, rfl, Nat.zero_le _, rfl, ?_⟩ | refine ⟨_, _, rfl, ?_, ?_⟩ | refine ⟨_, rfl, ?_⟩ | exact congrArg (fun z => DV.v (.int .i64 z)) hmw | refine Or.inr (Or.inr (Or.inr ⟨_, _, rfl, ?_⟩)) | exact Or.inl rfl | refine Or.inr ?_)), chkR_mk (tk := []) (f := (20, h.at')) hS (fun _ => rfl)⟩
    have x : ¬ h.hi < h.lo := of_decide_eq_false x
    rw [if_neg (by omega), if_neg (by omega), if_neg (by omega), if_neg (by omega), if_neg (by omega)] at hS
    exact ⟨_, [[.v (.int .i64 (m + 1))]], (by repeat' (first | exact rfl | exact trivial | exact Or.inr (Or.inl ⟨_, rfl⟩) | exact Or.inr ⟨_, rfl⟩ | exact Or.inl ⟨rfl, rfl⟩ | exact Or.inl rfl | refine Or.inr ⟨_, _, rfl, Nat.zero_le _, rfl, ?_⟩ | refine ⟨_, _, rfl, ?_, ?_⟩ | refine ⟨_, rfl, ?_⟩ | refine Or.inr (Or.inr (Or.inr ⟨_, _, rfl, ?_⟩)) | exact Or.inl rfl | refine Or.inr ?_)), (by repeat' (first | exact rfl | exact trivial | exact Or.inr (Or.inl ⟨_, rfl⟩) | exact Or.inr ⟨_, rfl⟩ | exact Or.inl ⟨rfl, rfl⟩ | exact Or.inl rfl | refine Or.inr ⟨_, _, rfl, Nat.zero_le _, rfl, ?_⟩ | refine ⟨_, _, rfl, ?_, ?_⟩ | refine ⟨_, rfl, ?_⟩ | exact congrArg (fun z => DV.v (.int .i64 z)) hmw | refine Or.inr (Or.inr (Or.inr ⟨_, _, rfl, ?_⟩)) | exact Or.inl rfl | refine Or.inr ?_)), chkR_mk (tk := []) (f := (0, 0)) hS (fun _ => rfl)⟩
  have k2 : ¬ h.kind = 2 := of_decide_eq_false k2
  refine br (fun k3 => ?_) (fun k3 => ?_)
  · have k3 : h.kind = 3 := of_decide_eq_true k3
    refine br (fun x => ?_) (fun x => ?_)
    · have x : h.most < 0 ∨ 4096 < h.most := by simpa [pickB_or] using x
      rw [if_pos (.inr ⟨k3, x⟩)] at hS
      refine call_p (enters_of Tryz.func164 (by decide +kernel) rfl) (bad_spec 20 h.at') (by repeat' (first | exact rfl | exact trivial | exact Or.inr (Or.inl ⟨_, rfl⟩) | exact Or.inr ⟨_, rfl⟩ | exact Or.inl ⟨rfl, rfl⟩ | exact Or.inl rfl | refine Or.inr ⟨_, _, rfl, Nat.zero_le _, rfl, ?_⟩ | refine ⟨_, _, rfl, ?_, ?_⟩ | refine ⟨_, rfl, ?_⟩ | refine Or.inr (Or.inr (Or.inr ⟨_, _, rfl, ?_⟩)) | exact Or.inl rfl | refine Or.inr ?_)) rfl ?_
      exact ⟨_, [[.v (.int .i64 (m + 1))]], (by repeat' (first | exact rfl | exact trivial | exact Or.inr (Or.inl ⟨_, rfl⟩) | exact Or.inr ⟨_, rfl⟩ | exact Or.inl ⟨rfl, rfl⟩ | exact Or.inl rfl | refine Or.inr ⟨_, _, rfl, Nat.zero_le _, rfl, ?_⟩ | refine ⟨_, _, rfl, ?_, ?_⟩ | refine ⟨_, rfl, ?_⟩ | refine Or.inr (Or.inr (Or.inr ⟨_, _, rfl, ?_⟩)) | exact Or.inl rfl | refine Or.inr ?_)), (by repeat' (first | exact rfl | exact trivial | exact Or.inr (Or.inl ⟨_, rfl⟩) | exact Or.inr ⟨_, rfl⟩ | exact Or.inl ⟨rfl, rfl⟩ | exact Or.inl rfl | refine Or.inr ⟨_, _, rfl, Nat.zero_le _, rfl, ?_⟩ | refine ⟨_, _, rfl, ?_, ?_⟩ | refine ⟨_, rfl, ?_⟩ | exact congrArg (fun z => DV.v (.int .i64 z)) hmw | refine Or.inr (Or.inr (Or.inr ⟨_, _, rfl, ?_⟩)) | exact Or.inl rfl | refine Or.inr ?_)), chkR_mk (tk := []) (f := (20, h.at')) hS (fun _ => rfl)⟩
    have x : ¬ (h.most < 0 ∨ 4096 < h.most) := by simp [pickB_or] at x; omega
    rw [if_neg (by omega), if_neg (by omega), if_neg (by omega), if_neg (by omega), if_neg (by omega)] at hS
    exact ⟨_, [[.v (.int .i64 (m + 1))]], (by repeat' (first | exact rfl | exact trivial | exact Or.inr (Or.inl ⟨_, rfl⟩) | exact Or.inr ⟨_, rfl⟩ | exact Or.inl ⟨rfl, rfl⟩ | exact Or.inl rfl | refine Or.inr ⟨_, _, rfl, Nat.zero_le _, rfl, ?_⟩ | refine ⟨_, _, rfl, ?_, ?_⟩ | refine ⟨_, rfl, ?_⟩ | refine Or.inr (Or.inr (Or.inr ⟨_, _, rfl, ?_⟩)) | exact Or.inl rfl | refine Or.inr ?_)), (by repeat' (first | exact rfl | exact trivial | exact Or.inr (Or.inl ⟨_, rfl⟩) | exact Or.inr ⟨_, rfl⟩ | exact Or.inl ⟨rfl, rfl⟩ | exact Or.inl rfl | refine Or.inr ⟨_, _, rfl, Nat.zero_le _, rfl, ?_⟩ | refine ⟨_, _, rfl, ?_, ?_⟩ | refine ⟨_, rfl, ?_⟩ | exact congrArg (fun z => DV.v (.int .i64 z)) hmw | refine Or.inr (Or.inr (Or.inr ⟨_, _, rfl, ?_⟩)) | exact Or.inl rfl | refine Or.inr ?_)), chkR_mk (tk := []) (f := (0, 0)) hS (fun _ => rfl)⟩
  have k3 : ¬ h.kind = 3 := of_decide_eq_false k3
  rw [if_neg (by omega)] at hS
  refine br (fun k4 => ?_) (fun k4 => ?_)
  · have k4 : h.kind = 4 := of_decide_eq_true k4
    rw [if_neg (by omega), if_pos k4, ← kenum_eq] at hS
    refine call_p (enters_of Tryz.func166 (by decide +kernel) rfl) (kenum_spec h ps (by omega)) (by repeat' (first | exact rfl | exact trivial | exact Or.inr (Or.inl ⟨_, rfl⟩) | exact Or.inr ⟨_, rfl⟩ | exact Or.inl ⟨rfl, rfl⟩ | exact Or.inl rfl | refine Or.inr ⟨_, _, rfl, Nat.zero_le _, rfl, ?_⟩ | refine ⟨_, _, rfl, ?_, ?_⟩ | refine ⟨_, rfl, ?_⟩ | refine Or.inr (Or.inr (Or.inr ⟨_, _, rfl, ?_⟩)) | exact Or.inl rfl | refine Or.inr ?_)) rfl ?_
    exact ⟨_, [[.v (.int .i64 (m + 1))]], (by repeat' (first | exact rfl | exact trivial | exact Or.inr (Or.inl ⟨_, rfl⟩) | exact Or.inr ⟨_, rfl⟩ | exact Or.inl ⟨rfl, rfl⟩ | exact Or.inl rfl | refine Or.inr ⟨_, _, rfl, Nat.zero_le _, rfl, ?_⟩ | refine ⟨_, _, rfl, ?_, ?_⟩ | refine ⟨_, rfl, ?_⟩ | refine Or.inr (Or.inr (Or.inr ⟨_, _, rfl, ?_⟩)) | exact Or.inl rfl | refine Or.inr ?_)), (by repeat' (first | exact rfl | exact trivial | exact Or.inr (Or.inl ⟨_, rfl⟩) | exact Or.inr ⟨_, rfl⟩ | exact Or.inl ⟨rfl, rfl⟩ | exact Or.inl rfl | refine Or.inr ⟨_, _, rfl, Nat.zero_le _, rfl, ?_⟩ | refine ⟨_, _, rfl, ?_, ?_⟩ | refine ⟨_, rfl, ?_⟩ | exact congrArg (fun z => DV.v (.int .i64 z)) hmw | refine Or.inr (Or.inr (Or.inr ⟨_, _, rfl, ?_⟩)) | exact Or.inl rfl | refine Or.inr ?_)), chkR_mk (tk := []) (f := kenumF h) hS (fun _ => rfl)⟩
  have k4 : ¬ h.kind = 4 := of_decide_eq_false k4
  refine br (fun k5 => ?_) (fun k5 => ?_)
  · have k5' : h.kind = 5 ∨ h.kind = 6 := .inl (of_decide_eq_true k5)
    rw [if_neg (by omega), if_neg (by omega), if_pos k5'] at hS
    refine br (fun _ => ?_) (fun hc => by rw [k5] at hc; cases hc)
    refine call_o (enters_of Tryz.func167 (by decide +kernel) rfl) rfl rfl (cs' := [.v (.int .i64 (m + 1))]) (by repeat' (first | exact rfl | exact trivial | exact Or.inr (Or.inl ⟨_, rfl⟩) | exact Or.inr ⟨_, rfl⟩ | exact Or.inl ⟨rfl, rfl⟩ | exact Or.inl rfl | refine Or.inr ⟨_, _, rfl, Nat.zero_le _, rfl, ?_⟩ | refine ⟨_, _, rfl, ?_, ?_⟩ | refine ⟨_, rfl, ?_⟩ | exact congrArg (fun z => DV.v (.int .i64 z)) hmw | refine Or.inr (Or.inr (Or.inr ⟨_, _, rfl, ?_⟩)) | exact Or.inl rfl | refine Or.inr ?_)) (by repeat' (first | exact rfl | exact trivial | exact Or.inr (Or.inl ⟨_, rfl⟩) | exact Or.inr ⟨_, rfl⟩ | exact Or.inl ⟨rfl, rfl⟩ | exact Or.inl rfl | refine Or.inr ⟨_, _, rfl, Nat.zero_le _, rfl, ?_⟩ | refine ⟨_, _, rfl, ?_, ?_⟩ | refine ⟨_, rfl, ?_⟩ | refine Or.inr (Or.inr (Or.inr ⟨_, _, rfl, ?_⟩)) | exact Or.inl rfl | refine Or.inr ?_)) (kone_spec k ih h ps depth (m + 1) hk hbig hd0 (by omega) (by omega) (by omega)) chkR_cl (fun r cs2 hr => ?_)
    obtain ⟨rfl, z, hz, hzz⟩ := hr
    simp only [List.cons.injEq, and_true] at hz
    subst hz
    exact ⟨_, _, (by repeat' (first | exact rfl | exact trivial | exact Or.inr (Or.inl ⟨_, rfl⟩) | exact Or.inr ⟨_, rfl⟩ | exact Or.inl ⟨rfl, rfl⟩ | exact Or.inl rfl | refine Or.inr ⟨_, _, rfl, Nat.zero_le _, rfl, ?_⟩ | refine ⟨_, _, rfl, ?_, ?_⟩ | refine ⟨_, rfl, ?_⟩ | refine Or.inr (Or.inr (Or.inr ⟨_, _, rfl, ?_⟩)) | exact Or.inl rfl | refine Or.inr ?_)), (by repeat' (first | exact rfl | exact trivial | exact Or.inr (Or.inl ⟨_, rfl⟩) | exact Or.inr ⟨_, rfl⟩ | exact Or.inl ⟨rfl, rfl⟩ | exact Or.inl rfl | refine Or.inr ⟨_, _, rfl, Nat.zero_le _, rfl, ?_⟩ | refine ⟨_, _, rfl, ?_, ?_⟩ | refine ⟨_, rfl, ?_⟩ | refine Or.inr (Or.inr (Or.inr ⟨_, _, rfl, ?_⟩)) | exact Or.inl rfl | refine Or.inr ?_)), chkR_mk (tk := []) (f := (wrongOne h ps depth (m + 1)).1) hS hzz⟩
  have k5 : ¬ h.kind = 5 := of_decide_eq_false k5
  refine br (fun k6 => ?_) (fun k6 => ?_)
  · have k5' : h.kind = 5 ∨ h.kind = 6 := .inr (of_decide_eq_true k6)
    rw [if_neg (by omega), if_neg (by omega), if_pos k5'] at hS
    refine call_o (enters_of Tryz.func167 (by decide +kernel) rfl) rfl rfl (cs' := [.v (.int .i64 (m + 1))]) (by repeat' (first | exact rfl | exact trivial | exact Or.inr (Or.inl ⟨_, rfl⟩) | exact Or.inr ⟨_, rfl⟩ | exact Or.inl ⟨rfl, rfl⟩ | exact Or.inl rfl | refine Or.inr ⟨_, _, rfl, Nat.zero_le _, rfl, ?_⟩ | refine ⟨_, _, rfl, ?_, ?_⟩ | refine ⟨_, rfl, ?_⟩ | exact congrArg (fun z => DV.v (.int .i64 z)) hmw | refine Or.inr (Or.inr (Or.inr ⟨_, _, rfl, ?_⟩)) | exact Or.inl rfl | refine Or.inr ?_)) (by repeat' (first | exact rfl | exact trivial | exact Or.inr (Or.inl ⟨_, rfl⟩) | exact Or.inr ⟨_, rfl⟩ | exact Or.inl ⟨rfl, rfl⟩ | exact Or.inl rfl | refine Or.inr ⟨_, _, rfl, Nat.zero_le _, rfl, ?_⟩ | refine ⟨_, _, rfl, ?_, ?_⟩ | refine ⟨_, rfl, ?_⟩ | refine Or.inr (Or.inr (Or.inr ⟨_, _, rfl, ?_⟩)) | exact Or.inl rfl | refine Or.inr ?_)) (kone_spec k ih h ps depth (m + 1) hk hbig hd0 (by omega) (by omega) (by omega)) chkR_cl (fun r cs2 hr => ?_)
    obtain ⟨rfl, z, hz, hzz⟩ := hr
    simp only [List.cons.injEq, and_true] at hz
    subst hz
    exact ⟨_, _, (by repeat' (first | exact rfl | exact trivial | exact Or.inr (Or.inl ⟨_, rfl⟩) | exact Or.inr ⟨_, rfl⟩ | exact Or.inl ⟨rfl, rfl⟩ | exact Or.inl rfl | refine Or.inr ⟨_, _, rfl, Nat.zero_le _, rfl, ?_⟩ | refine ⟨_, _, rfl, ?_, ?_⟩ | refine ⟨_, rfl, ?_⟩ | refine Or.inr (Or.inr (Or.inr ⟨_, _, rfl, ?_⟩)) | exact Or.inl rfl | refine Or.inr ?_)), (by repeat' (first | exact rfl | exact trivial | exact Or.inr (Or.inl ⟨_, rfl⟩) | exact Or.inr ⟨_, rfl⟩ | exact Or.inl ⟨rfl, rfl⟩ | exact Or.inl rfl | refine Or.inr ⟨_, _, rfl, Nat.zero_le _, rfl, ?_⟩ | refine ⟨_, _, rfl, ?_, ?_⟩ | refine ⟨_, rfl, ?_⟩ | refine Or.inr (Or.inr (Or.inr ⟨_, _, rfl, ?_⟩)) | exact Or.inl rfl | refine Or.inr ?_)), chkR_mk (tk := []) (f := (wrongOne h ps depth (m + 1)).1) hS hzz⟩
  have k6 : ¬ h.kind = 6 := of_decide_eq_false k6
  have hP : partsF h ps depth (m + 1) = partsF h ps depth (m + 1) := rfl
  conv at hP => lhs; unfold partsF
  refine br (fun k7 => ?_) (fun k7 => ?_)
  · have k7' : h.kind = 7 ∨ h.kind = 8 := .inl (of_decide_eq_true k7)
    rw [if_neg (by omega), if_neg (by omega), if_neg (by omega), if_pos k7', hP] at hS
    refine br (fun _ => ?_) (fun hc => by rw [k7] at hc; cases hc)
    refine call_o (enters_of Tryz.func168 (by decide +kernel) rfl) rfl rfl (cs' := [.v (.int .i64 (m + 1))]) (by repeat' (first | exact rfl | exact trivial | exact Or.inr (Or.inl ⟨_, rfl⟩) | exact Or.inr ⟨_, rfl⟩ | exact Or.inl ⟨rfl, rfl⟩ | exact Or.inl rfl | refine Or.inr ⟨_, _, rfl, Nat.zero_le _, rfl, ?_⟩ | refine ⟨_, _, rfl, ?_, ?_⟩ | refine ⟨_, rfl, ?_⟩ | exact congrArg (fun z => DV.v (.int .i64 z)) hmw | refine Or.inr (Or.inr (Or.inr ⟨_, _, rfl, ?_⟩)) | exact Or.inl rfl | refine Or.inr ?_)) (by repeat' (first | exact rfl | exact trivial | exact Or.inr (Or.inl ⟨_, rfl⟩) | exact Or.inr ⟨_, rfl⟩ | exact Or.inl ⟨rfl, rfl⟩ | exact Or.inl rfl | refine Or.inr ⟨_, _, rfl, Nat.zero_le _, rfl, ?_⟩ | refine ⟨_, _, rfl, ?_, ?_⟩ | refine ⟨_, rfl, ?_⟩ | refine Or.inr (Or.inr (Or.inr ⟨_, _, rfl, ?_⟩)) | exact Or.inl rfl | refine Or.inr ?_)) (kparts_spec k ih h ps depth (m + 1) k7' hk hbig hd0 (by omega) (by omega) (by omega)) chkR_cl (fun r cs2 hr => ?_)
    obtain ⟨rfl, z, hz, hzz⟩ := hr
    simp only [List.cons.injEq, and_true] at hz
    subst hz
    exact ⟨_, _, (by repeat' (first | exact rfl | exact trivial | exact Or.inr (Or.inl ⟨_, rfl⟩) | exact Or.inr ⟨_, rfl⟩ | exact Or.inl ⟨rfl, rfl⟩ | exact Or.inl rfl | refine Or.inr ⟨_, _, rfl, Nat.zero_le _, rfl, ?_⟩ | refine ⟨_, _, rfl, ?_, ?_⟩ | refine ⟨_, rfl, ?_⟩ | refine Or.inr (Or.inr (Or.inr ⟨_, _, rfl, ?_⟩)) | exact Or.inl rfl | refine Or.inr ?_)), (by repeat' (first | exact rfl | exact trivial | exact Or.inr (Or.inl ⟨_, rfl⟩) | exact Or.inr ⟨_, rfl⟩ | exact Or.inl ⟨rfl, rfl⟩ | exact Or.inl rfl | refine Or.inr ⟨_, _, rfl, Nat.zero_le _, rfl, ?_⟩ | refine ⟨_, _, rfl, ?_, ?_⟩ | refine ⟨_, rfl, ?_⟩ | refine Or.inr (Or.inr (Or.inr ⟨_, _, rfl, ?_⟩)) | exact Or.inl rfl | refine Or.inr ?_)), chkR_mk (tk := []) (f := (partsF h ps depth (m + 1)).1) hS hzz⟩
  have k7 : ¬ h.kind = 7 := of_decide_eq_false k7
  refine br (fun k8 => ?_) (fun k8 => ?_)
  · have k7' : h.kind = 7 ∨ h.kind = 8 := .inr (of_decide_eq_true k8)
    rw [if_neg (by omega), if_neg (by omega), if_neg (by omega), if_pos k7', hP] at hS
    refine call_o (enters_of Tryz.func168 (by decide +kernel) rfl) rfl rfl (cs' := [.v (.int .i64 (m + 1))]) (by repeat' (first | exact rfl | exact trivial | exact Or.inr (Or.inl ⟨_, rfl⟩) | exact Or.inr ⟨_, rfl⟩ | exact Or.inl ⟨rfl, rfl⟩ | exact Or.inl rfl | refine Or.inr ⟨_, _, rfl, Nat.zero_le _, rfl, ?_⟩ | refine ⟨_, _, rfl, ?_, ?_⟩ | refine ⟨_, rfl, ?_⟩ | exact congrArg (fun z => DV.v (.int .i64 z)) hmw | refine Or.inr (Or.inr (Or.inr ⟨_, _, rfl, ?_⟩)) | exact Or.inl rfl | refine Or.inr ?_)) (by repeat' (first | exact rfl | exact trivial | exact Or.inr (Or.inl ⟨_, rfl⟩) | exact Or.inr ⟨_, rfl⟩ | exact Or.inl ⟨rfl, rfl⟩ | exact Or.inl rfl | refine Or.inr ⟨_, _, rfl, Nat.zero_le _, rfl, ?_⟩ | refine ⟨_, _, rfl, ?_, ?_⟩ | refine ⟨_, rfl, ?_⟩ | refine Or.inr (Or.inr (Or.inr ⟨_, _, rfl, ?_⟩)) | exact Or.inl rfl | refine Or.inr ?_)) (kparts_spec k ih h ps depth (m + 1) k7' hk hbig hd0 (by omega) (by omega) (by omega)) chkR_cl (fun r cs2 hr => ?_)
    obtain ⟨rfl, z, hz, hzz⟩ := hr
    simp only [List.cons.injEq, and_true] at hz
    subst hz
    exact ⟨_, _, (by repeat' (first | exact rfl | exact trivial | exact Or.inr (Or.inl ⟨_, rfl⟩) | exact Or.inr ⟨_, rfl⟩ | exact Or.inl ⟨rfl, rfl⟩ | exact Or.inl rfl | refine Or.inr ⟨_, _, rfl, Nat.zero_le _, rfl, ?_⟩ | refine ⟨_, _, rfl, ?_, ?_⟩ | refine ⟨_, rfl, ?_⟩ | refine Or.inr (Or.inr (Or.inr ⟨_, _, rfl, ?_⟩)) | exact Or.inl rfl | refine Or.inr ?_)), (by repeat' (first | exact rfl | exact trivial | exact Or.inr (Or.inl ⟨_, rfl⟩) | exact Or.inr ⟨_, rfl⟩ | exact Or.inl ⟨rfl, rfl⟩ | exact Or.inl rfl | refine Or.inr ⟨_, _, rfl, Nat.zero_le _, rfl, ?_⟩ | refine ⟨_, _, rfl, ?_, ?_⟩ | refine ⟨_, rfl, ?_⟩ | refine Or.inr (Or.inr (Or.inr ⟨_, _, rfl, ?_⟩)) | exact Or.inl rfl | refine Or.inr ?_)), chkR_mk (tk := []) (f := (partsF h ps depth (m + 1)).1) hS hzz⟩
  have k8 : ¬ h.kind = 8 := of_decide_eq_false k8
  refine br (fun k9 => ?_) (fun k9 => ?_)
  · have k9 : h.kind = 9 := of_decide_eq_true k9
    refine call_p (enters_of Tryz.func75 (by decide +kernel) rfl) (right_spec h.name.s (by simp only [Wd.wt] at hbig'; omega)) (by repeat' (first | exact rfl | exact trivial | exact Or.inr (Or.inl ⟨_, rfl⟩) | exact Or.inr ⟨_, rfl⟩ | exact Or.inl ⟨rfl, rfl⟩ | exact Or.inl rfl | refine Or.inr ⟨_, _, rfl, Nat.zero_le _, rfl, ?_⟩ | refine ⟨_, _, rfl, ?_, ?_⟩ | refine ⟨_, rfl, ?_⟩ | refine Or.inr (Or.inr (Or.inr ⟨_, _, rfl, ?_⟩)) | exact Or.inl rfl | refine Or.inr ?_)) rfl ?_
    refine br (fun q => ?_) (fun q => ?_)
    · have q : nameOK h.name.s = false := by simpa using q
      rw [if_pos ⟨k9, q⟩] at hS
      refine call_p (enters_of Tryz.func164 (by decide +kernel) rfl) (bad_spec 9 h.name.a) (by repeat' (first | exact rfl | exact trivial | exact Or.inr (Or.inl ⟨_, rfl⟩) | exact Or.inr ⟨_, rfl⟩ | exact Or.inl ⟨rfl, rfl⟩ | exact Or.inl rfl | refine Or.inr ⟨_, _, rfl, Nat.zero_le _, rfl, ?_⟩ | refine ⟨_, _, rfl, ?_, ?_⟩ | refine ⟨_, rfl, ?_⟩ | refine Or.inr (Or.inr (Or.inr ⟨_, _, rfl, ?_⟩)) | exact Or.inl rfl | refine Or.inr ?_)) rfl ?_
      exact ⟨_, [[.v (.int .i64 (m + 1))]], (by repeat' (first | exact rfl | exact trivial | exact Or.inr (Or.inl ⟨_, rfl⟩) | exact Or.inr ⟨_, rfl⟩ | exact Or.inl ⟨rfl, rfl⟩ | exact Or.inl rfl | refine Or.inr ⟨_, _, rfl, Nat.zero_le _, rfl, ?_⟩ | refine ⟨_, _, rfl, ?_, ?_⟩ | refine ⟨_, rfl, ?_⟩ | refine Or.inr (Or.inr (Or.inr ⟨_, _, rfl, ?_⟩)) | exact Or.inl rfl | refine Or.inr ?_)), (by repeat' (first | exact rfl | exact trivial | exact Or.inr (Or.inl ⟨_, rfl⟩) | exact Or.inr ⟨_, rfl⟩ | exact Or.inl ⟨rfl, rfl⟩ | exact Or.inl rfl | refine Or.inr ⟨_, _, rfl, Nat.zero_le _, rfl, ?_⟩ | refine ⟨_, _, rfl, ?_, ?_⟩ | refine ⟨_, rfl, ?_⟩ | exact congrArg (fun z => DV.v (.int .i64 z)) hmw | refine Or.inr (Or.inr (Or.inr ⟨_, _, rfl, ?_⟩)) | exact Or.inl rfl | refine Or.inr ?_)), chkR_mk (tk := []) (f := (9, h.name.a)) hS (fun _ => rfl)⟩
    · have q : nameOK h.name.s = true := by simpa using q
      rw [if_neg (by simp [q]), if_neg (by omega), if_neg (by omega), if_neg (by omega)] at hS
      exact ⟨_, [[.v (.int .i64 (m + 1))]], (by repeat' (first | exact rfl | exact trivial | exact Or.inr (Or.inl ⟨_, rfl⟩) | exact Or.inr ⟨_, rfl⟩ | exact Or.inl ⟨rfl, rfl⟩ | exact Or.inl rfl | refine Or.inr ⟨_, _, rfl, Nat.zero_le _, rfl, ?_⟩ | refine ⟨_, _, rfl, ?_, ?_⟩ | refine ⟨_, rfl, ?_⟩ | refine Or.inr (Or.inr (Or.inr ⟨_, _, rfl, ?_⟩)) | exact Or.inl rfl | refine Or.inr ?_)), (by repeat' (first | exact rfl | exact trivial | exact Or.inr (Or.inl ⟨_, rfl⟩) | exact Or.inr ⟨_, rfl⟩ | exact Or.inl ⟨rfl, rfl⟩ | exact Or.inl rfl | refine Or.inr ⟨_, _, rfl, Nat.zero_le _, rfl, ?_⟩ | refine ⟨_, _, rfl, ?_, ?_⟩ | refine ⟨_, rfl, ?_⟩ | exact congrArg (fun z => DV.v (.int .i64 z)) hmw | refine Or.inr (Or.inr (Or.inr ⟨_, _, rfl, ?_⟩)) | exact Or.inl rfl | refine Or.inr ?_)), chkR_mk (tk := []) (f := (0, 0)) hS (fun _ => rfl)⟩
  have k9 : ¬ h.kind = 9 := of_decide_eq_false k9
  rw [if_neg (by omega), if_neg (by omega), if_neg (by omega), if_neg (by omega)] at hS
  exact ⟨_, [[.v (.int .i64 (m + 1))]], (by repeat' (first | exact rfl | exact trivial | exact Or.inr (Or.inl ⟨_, rfl⟩) | exact Or.inr ⟨_, rfl⟩ | exact Or.inl ⟨rfl, rfl⟩ | exact Or.inl rfl | refine Or.inr ⟨_, _, rfl, Nat.zero_le _, rfl, ?_⟩ | refine ⟨_, _, rfl, ?_, ?_⟩ | refine ⟨_, rfl, ?_⟩ | refine Or.inr (Or.inr (Or.inr ⟨_, _, rfl, ?_⟩)) | exact Or.inl rfl | refine Or.inr ?_)), (by repeat' (first | exact rfl | exact trivial | exact Or.inr (Or.inl ⟨_, rfl⟩) | exact Or.inr ⟨_, rfl⟩ | exact Or.inl ⟨rfl, rfl⟩ | exact Or.inl rfl | refine Or.inr ⟨_, _, rfl, Nat.zero_le _, rfl, ?_⟩ | refine ⟨_, _, rfl, ?_, ?_⟩ | refine ⟨_, rfl, ?_⟩ | exact congrArg (fun z => DV.v (.int .i64 z)) hmw | refine Or.inr (Or.inr (Or.inr ⟨_, _, rfl, ?_⟩)) | exact Or.inl rfl | refine Or.inr ?_)), chkR_mk (tk := []) (f := (0, 0)) hS (fun _ => rfl)⟩

theorem kchk_any : ∀ k, KChk k
  | 0 => fun t depth m hk => by have := t.wt_pos; omega
  | k + 1 => fun t depth m hk hbig hd0 hd1 hm0 hm1 => by
    obtain ⟨h, ps⟩ := t
    have hk' := hk
    simp only [Ty.wt, Hd.wt] at hk'
    exact kcheck_step k (kchk_any k) h ps depth m (by omega) hbig hd0 hd1 hm0 hm1

/-- **kinds.Right.** -/
theorem kright_spec (t : Ty) (hbig : t.wt ≤ 1099511627776) : EvP Tryz.prog 71 [.agg (dTy t)] (wrong t 1 0).1.d :=
  kright_of t (kchk_any t.wt t 1 0 (Nat.le_refl _) hbig (by omega) (by omega) (by omega) (by omega))

/-- **unparse.Type.** -/
theorem utype_spec (t : Ty) (hbig : t.wt ≤ 1099511627776) (hr : rngT t) : EvP Tryz.prog 18 [.agg (dTy t)] (.v (.string (typeT t))) :=
  utype_of t hbig (wrong_fine t 1 0 hr) (kchk_any t.wt t 1 0 (Nat.le_refl _) hbig (by omega) (by omega) (by omega) (by omega))
end Go.Proofs.YtmphiikdhifhjaaGreat
set_option maxRecDepth 100000
namespace Go.Proofs.YtmphiikdhifhjaaGreat
open Go Go.RowKit Dv Tryz

abbrev cntSt (t : Ty) (ps : Pts) (e n : Nat) : St :=
  ⟨[(1, ⟨[], .loc 0 0⟩), (3, ⟨[], .v (.int .i64 n)⟩), (7, ⟨[], .sl 18 (dPts ps) none⟩), (8, ⟨[], .v (.int .i64 (dPts ps).length)⟩), (9, ⟨[], .v (.int .i64 e)⟩)], [dTy t], []⟩

theorem count_spec : ∀ (k : Nat) (t : Ty), t.wt ≤ k → t.wt ≤ 1099511627776 →
    EvP Tryz.prog 148 [.agg (dTy t)] (.v (.int .i64 t.cnt))
  | 0, t, hn, _ => by have := t.wt_pos; omega
  | k + 1, .mk h ps, hn, hbig => by
    simp only [Ty.wt, Hd.wt] at hn hbig
    have hpl := ps.wt_len
    have hc := ps.cnt_wt
    refine ev_go (P := Tryz.prog) tt tt_ok 5000 23 [.tmp 2] Tryz.func148 rfl Tryz.ntmps148 rfl (Nat.le_of_ble_eq_true rfl) (fun E9 w9 hn9 hm9 => ?_)
    refine loop_i (fun j st => ∃ (e n : Nat), st = cntSt (.mk h ps) ps e n ∧ e ≤ ps.len ∧ n + (ps.drop e).cnt = 1 + ps.cnt ∧ j = ps.len - e) ps.len
      (cntSt (.mk h ps) ps 0 1) (weak_mk ⟨_, rfl⟩ (by repeat' (first | exact rfl | exact we_rfl rfl | refine ⟨_, _, rfl, ?_, ?_⟩)) rfl rfl rfl (by repeat' (first | exact trivial | exact we_rfl rfl | refine ⟨⟨_, rfl, ?_⟩, ?_⟩))) ⟨0, 1, rfl, by omega, rfl, by omega⟩ ?_
    rintro j st ⟨e, n, rfl, he, hne, rfl⟩
    refine br (fun hL => ?_) (fun hL => ?_)
    · have hlt : e < ps.len := by simpa [dPts_len] using hL
      obtain ⟨p, t, hx⟩ := Pts.get_lt hlt
      have hwt := Pts.wt_mem (List.mem_of_getElem? hx)
      rw [Pts.drop_cons hx] at hne
      simp only [Pts.cnt] at hne
      have hct := t.cnt_wt
      obtain ⟨u, us⟩ := t
      refine ⟨_, ⟨by omega, dPts_get hx⟩, ?_⟩
      refine br (fun hB => ?_) (fun hB => ?_)
      · have hB : p.bare = false := by simpa using hB
        rw [hB] at hne
        have hne : n + ((Ty.mk u us).cnt + (ps.drop (e + 1)).cnt) = 1 + ps.cnt := hne
        refine call_p (enters_of Tryz.func148 (by decide +kernel) rfl) (count_spec k (.mk u us) (by omega) (by omega)) (by repeat' (first | exact rfl | exact trivial | exact Or.inr (Or.inl ⟨_, rfl⟩) | exact Or.inr ⟨_, rfl⟩ | exact Or.inl ⟨rfl, rfl⟩ | exact Or.inl rfl | refine Or.inr ⟨_, _, rfl, Nat.zero_le _, rfl, ?_⟩ | refine ⟨_, _, rfl, ?_, ?_⟩ | refine ⟨_, rfl, ?_⟩ | refine Or.inr (Or.inr (Or.inr ⟨_, _, rfl, ?_⟩)) | exact Or.inl rfl | refine Or.inr ?_)) rfl ?_
        have hw4 : IntKind.i64.wrap ((n : Int) + (Ty.mk u us).cnt) = ((n + (Ty.mk u us).cnt : Nat) : Int) := by rw [wrap64 (by omega) (by omega)]; omega
        exact ⟨cntSt (.mk h ps) ps (e + 1) (n + (Ty.mk u us).cnt), (weak_mk ⟨_, rfl⟩ (by repeat' (first | exact rfl | exact we_rfl rfl | refine ⟨_, _, rfl, ?_, ?_⟩)) rfl rfl rfl (by repeat' (first | exact trivial | exact we_rfl rfl | exact we_int hw4 | exact we_int (nxt hlt (by omega)) | refine ⟨⟨_, rfl, ?_⟩, ?_⟩))), ps.len - (e + 1), by omega, e + 1, _, rfl, by omega, by omega, rfl⟩
      · have hB : p.bare = true := by simpa using hB
        rw [hB] at hne
        have hne : n + (0 + (ps.drop (e + 1)).cnt) = 1 + ps.cnt := hne
        exact ⟨cntSt (.mk h ps) ps (e + 1) n, (weak_mk ⟨_, rfl⟩ (by repeat' (first | exact rfl | exact we_rfl rfl | refine ⟨_, _, rfl, ?_, ?_⟩)) rfl rfl rfl (by repeat' (first | exact trivial | exact we_rfl rfl | exact we_int (nxt hlt (by omega)) | refine ⟨⟨_, rfl, ?_⟩, ?_⟩))), ps.len - (e + 1), by omega, e + 1, n, rfl, by omega, by omega, rfl⟩
    · have hge : e = ps.len := by simp [dPts_len] at hL; omega
      rw [hge, Pts.drop_len] at hne
      simp only [Pts.cnt] at hne
      have e2 : (n : Int) = ((Ty.mk h ps).cnt : Int) := by simp only [Ty.cnt]; omega
      refine (congrArg (fun z => DV.v (.int .i64 z)) ?_ : _ = _)
      exact e2

/-! ### Nodes -/
mutual
/-- How many nodes a type is. -/
def Ty.nn : Ty → Nat
  | .mk h ps => if h.kind = 9 then 0 else 1 + ps.nn
def Pts.nn : Pts → Nat
  | .nil => 0
  | .cons p t r => (if p.bare then 0 else t.nn) + r.nn
end
mutual
theorem Ty.nn_cnt : ∀ t : Ty, t.nn ≤ t.cnt
  | .mk h ps => by
    have := Pts.nn_cnt ps
    simp only [Ty.nn, Ty.cnt]
    split <;> omega
theorem Pts.nn_cnt : ∀ ps : Pts, ps.nn ≤ ps.cnt
  | .nil => Nat.le_refl _
  | .cons p t r => by
    have := Ty.nn_cnt t
    have := Pts.nn_cnt r
    simp only [Pts.nn, Pts.cnt]
    split <;> omega
end
abbrev nnSt (t : Ty) (ps : Pts) (e n : Nat) : St :=
  ⟨[(1, ⟨[], .loc 0 0⟩), (3, ⟨[], .v (.int .i64 n)⟩), (10, ⟨[], .sl 18 (dPts ps) none⟩), (11, ⟨[], .v (.int .i64 (dPts ps).length)⟩), (12, ⟨[], .v (.int .i64 e)⟩)], [dTy t], []⟩

theorem nodes_spec : ∀ (k : Nat) (t : Ty), t.wt ≤ k → t.wt ≤ 1099511627776 →
    EvP Tryz.prog 151 [.agg (dTy t)] (.v (.int .i64 t.nn))
  | 0, t, hn, _ => by have := t.wt_pos; omega
  | k + 1, .mk h ps, hn, hbig => by
    simp only [Ty.wt, Hd.wt] at hn hbig
    have hpl := ps.wt_len
    have hc := ps.cnt_wt
    have hc2 := ps.nn_cnt
    refine ev_go (P := Tryz.prog) tt tt_ok 5000 26 [.tmp 2] Tryz.func151 rfl Tryz.ntmps151 rfl (Nat.le_of_ble_eq_true rfl) (fun E9 w9 hn9 hm9 => ?_)
    refine br (fun h9 => ?_) (fun h9 => ?_)
    · have h9 : h.kind = 9 := by simpa using h9
      have : (Ty.mk h ps).nn = 0 := by simp [Ty.nn, h9]
      rw [this]
      exact (rfl : _ = _)
    have h9 : ¬ h.kind = 9 := by simpa using h9
    refine loop_i (fun j st => ∃ (e n : Nat), st = nnSt (.mk h ps) ps e n ∧ e ≤ ps.len ∧ n + (ps.drop e).nn = 1 + ps.nn ∧ j = ps.len - e) ps.len
      (nnSt (.mk h ps) ps 0 1) (weak_mk ⟨_, rfl⟩ (by repeat' (first | exact rfl | exact we_rfl rfl | refine ⟨_, _, rfl, ?_, ?_⟩)) rfl rfl rfl (by repeat' (first | exact trivial | exact we_rfl rfl | refine ⟨⟨_, rfl, ?_⟩, ?_⟩))) ⟨0, 1, rfl, by omega, rfl, by omega⟩ ?_
    rintro j st ⟨e, n, rfl, he, hne, rfl⟩
    refine br (fun hL => ?_) (fun hL => ?_)
    · have hlt : e < ps.len := by simpa [dPts_len] using hL
      obtain ⟨p, t, hx⟩ := Pts.get_lt hlt
      have hwt := Pts.wt_mem (List.mem_of_getElem? hx)
      rw [Pts.drop_cons hx] at hne
      simp only [Pts.nn] at hne
      have hct := t.cnt_wt
      have hct2 := t.nn_cnt
      obtain ⟨u, us⟩ := t
      refine ⟨_, ⟨by omega, dPts_get hx⟩, ?_⟩
      refine br (fun hB => ?_) (fun hB => ?_)
      · have hB : p.bare = false := by simpa using hB
        rw [hB] at hne
        have hne : n + ((Ty.mk u us).nn + (ps.drop (e + 1)).nn) = 1 + ps.nn := hne
        refine call_p (enters_of Tryz.func151 (by decide +kernel) rfl) (nodes_spec k (.mk u us) (by omega) (by omega)) (by repeat' (first | exact rfl | exact trivial | exact Or.inr (Or.inl ⟨_, rfl⟩) | exact Or.inr ⟨_, rfl⟩ | exact Or.inl ⟨rfl, rfl⟩ | exact Or.inl rfl | refine Or.inr ⟨_, _, rfl, Nat.zero_le _, rfl, ?_⟩ | refine ⟨_, _, rfl, ?_, ?_⟩ | refine ⟨_, rfl, ?_⟩ | refine Or.inr (Or.inr (Or.inr ⟨_, _, rfl, ?_⟩)) | exact Or.inl rfl | refine Or.inr ?_)) rfl ?_
        have hw4 : IntKind.i64.wrap ((n : Int) + (Ty.mk u us).nn) = ((n + (Ty.mk u us).nn : Nat) : Int) := by rw [wrap64 (by omega) (by omega)]; omega
        exact ⟨nnSt (.mk h ps) ps (e + 1) (n + (Ty.mk u us).nn), (weak_mk ⟨_, rfl⟩ (by repeat' (first | exact rfl | exact we_rfl rfl | refine ⟨_, _, rfl, ?_, ?_⟩)) rfl rfl rfl (by repeat' (first | exact trivial | exact we_rfl rfl | exact we_int hw4 | exact we_int (nxt hlt (by omega)) | refine ⟨⟨_, rfl, ?_⟩, ?_⟩))), ps.len - (e + 1), by omega, e + 1, _, rfl, by omega, by omega, rfl⟩
      · have hB : p.bare = true := by simpa using hB
        rw [hB] at hne
        have hne : n + (0 + (ps.drop (e + 1)).nn) = 1 + ps.nn := hne
        exact ⟨nnSt (.mk h ps) ps (e + 1) n, (weak_mk ⟨_, rfl⟩ (by repeat' (first | exact rfl | exact we_rfl rfl | refine ⟨_, _, rfl, ?_, ?_⟩)) rfl rfl rfl (by repeat' (first | exact trivial | exact we_rfl rfl | exact we_int (nxt hlt (by omega)) | refine ⟨⟨_, rfl, ?_⟩, ?_⟩))), ps.len - (e + 1), by omega, e + 1, n, rfl, by omega, by omega, rfl⟩
    · have hge : e = ps.len := by simp [dPts_len] at hL; omega
      rw [hge, Pts.drop_len] at hne
      simp only [Pts.nn] at hne
      have e2 : (n : Int) = ((Ty.mk h ps).nn : Int) := by simp only [Ty.nn, if_neg h9]; omega
      refine (congrArg (fun z => DV.v (.int .i64 z)) ?_ : _ = _)
      exact e2

/-! ### A lattice in one piece -/
structure Lx where
  names : List ByteArray
  ord : List Nat
  rows : List Nat
  js : List Int
  f : Nat → Nat → Bool
def Lx.pd (X : Lx) : DV := .pt (dLs X.names (dTbl X.names X.ord) X.rows X.js) 0
def Lx.lev (X : Lx) (l : List Wd) : Int := labN X.f X.names l
def Lx.bad (X : Lx) (l : List Wd) : Ft := labW X.names l
structure Lx.OK (X : Lx) : Prop where
  hT : TblOK X.names X.ord
  hol : X.ord.length ≤ 1099511627776
  hL : LatOK X.f X.names.length
  hn : X.names.length ≤ 32
  hj : ∀ x y, x < X.names.length → y < X.names.length → JM X.f X.names.length X.js x y
theorem Lx.of_spec {X : Lx} (h : X.OK) (l : List Wd) (hs : wdsWt l ≤ 1099511627776) : EvP Tryz.prog 149 [X.pd, .sl 2 (dWds l) none] (.tup [.v (.int .i64 (X.lev l)), (X.bad l).d]) :=
  lof_spec X.names X.ord X.rows X.js h.hT h.hol h.hL h.hn h.hj l hs

/-- The builder's cells. -/
def bC (s : Sch) (lat out : DV) (m : Int) : List DV := .sl 2 (dWds s.levels) none :: .sl 4 (dPrs s.order) none :: .sl 11 (dNms s.types) none :: (dTy s.root ++ [lat, out, .v (.int .i64 m)])

theorem level_spec {X : Lx} (h : X.OK) (s : Sch) (pc : List DV) (m : Int) (l : List Wd) (hs : wdsWt l ≤ 1099511627776) :
    EvP Tryz.prog 188 [.pt (bC s X.pd (.pt pc 0) m) 0, .sl 2 (dWds l) none] (.v (.int .i64 (X.lev l))) := by
  obtain ⟨levels, order, types, ⟨rh, rp⟩⟩ := s
  refine ev_go (P := Tryz.prog) tt tt_ok 5000 17 [.tmp 4] Tryz.func188 rfl Tryz.ntmps188 rfl (Nat.le_of_ble_eq_true rfl) (fun E9 w9 hn9 hm9 => ?_)
  refine call_p (enters_of Tryz.func149 (by decide +kernel) rfl) (Lx.of_spec h l hs) (by repeat' (first | exact rfl | exact trivial | exact Or.inr (Or.inl ⟨_, rfl⟩) | exact Or.inr ⟨_, rfl⟩ | exact Or.inl ⟨rfl, rfl⟩ | exact Or.inl rfl | refine Or.inr ⟨_, _, rfl, Nat.zero_le _, rfl, ?_⟩ | refine ⟨_, _, rfl, ?_, ?_⟩ | refine ⟨_, rfl, ?_⟩ | refine Or.inr (Or.inr (Or.inr ⟨_, _, rfl, ?_⟩)) | exact Or.inl rfl | refine Or.inr ?_)) rfl ?_
  exact (rfl : _ = _)
end Go.Proofs.YtmphiikdhifhjaaGreat
set_option maxRecDepth 100000
namespace Go.Proofs.YtmphiikdhifhjaaGreat
open Go Go.RowKit Dv Tryz

/-- The types' names. -/
def tNm (s : Sch) : List Wd := s.types.map fun x => x.1
def tL (s : Sch) : List ByteArray := nmTx (tNm s)
theorem tNm_len (s : Sch) : (tNm s).length = s.types.length := by simp [tNm]
theorem tL_len (s : Sch) : (tL s).length = s.types.length := by simp [tL, nmTx, tNm]

/-- The plan's cells, once the types' names are known. -/
def pC (s : Sch) (ord : List Nat) (a b c e : DV) : List DV := [a, b, c, .pt (dTbl (tL s) ord) 0, e]

/-- A Ref's name is known. -/
def refB (s : Sch) (t : Ty) : Bool := decide (t.h.kind = 9 → ixOf (tL s) t.h.name.s ≠ none)
/-- The type that a type comes to, in fewer than k steps. -/
def endI (s : Sch) : Nat → Nat → Option Nat
  | 0, _ => none
  | k + 1, i =>
    match s.types[i]? with
    | none => none
    | some x => if x.2.h.kind = 9 then endI s k ((ixOf (tL s) x.2.h.name.s).getD 0) else some i

theorem endI_lt {s : Sch} : ∀ {k i j : Nat}, endI s k i = some j → j < s.types.length ∧ ∀ x, s.types[j]? = some x → x.2.h.kind ≠ 9
  | 0, i, j, h => by cases h
  | k + 1, i, j, h => by
    rw [endI] at h
    cases hx : s.types[i]? with
    | none => rw [hx] at h; cases h
    | some x =>
      rw [hx] at h
      simp only at h
      split at h
      · exact endI_lt h
      · rename_i hk
        simp only [Option.some.injEq] at h
        subst h
        refine ⟨(List.getElem?_eq_some_iff.1 hx).1, fun y hy => ?_⟩
        rw [hx] at hy
        simp only [Option.some.injEq] at hy
        subst hy
        exact hk

abbrev endSt (B : DV) (n i e : Nat) : St :=
  ⟨[(0, ⟨[], B⟩), (1, ⟨[], .v (.int .i64 i)⟩), (12, ⟨[], .v (.int .i64 n)⟩), (13, ⟨[], .v (.int .i64 e)⟩)], [], []⟩

theorem end_spec (s : Sch) (lat : DV) (ord : List Nat) (a b c e0 : DV) (m : Int) (hT : TblOK (tL s) ord) (hol : ord.length ≤ 1099511627776) (hl : s.types.length ≤ 64) (hr : ∀ x ∈ s.types, refB s x.2 = true) (i : Nat) (hi : i < s.types.length) :
    EvP Tryz.prog 150 [.pt (bC s lat (.pt (pC s ord a b c e0) 0) m) 0, .v (.int .i64 i)] (.v (.int .i64 (oz (endI s (s.types.length + 1) i)))) := by
  have htl := tL_len s
  obtain ⟨levels, order, types, ⟨rh, rp⟩⟩ := s
  simp only at hl hr hi htl
  have hN := dNms_len types
  have hcnt : IntKind.i64.wrap ((((dNms types).length : Nat) : Int) + 1) = ((types.length + 1 : Nat) : Int) := by rw [hN, wrap64 (by omega) (by omega)]; rfl
  refine ev_go (P := Tryz.prog) tt tt_ok 5000 43 [.tmp 4] Tryz.func150 rfl Tryz.ntmps150 rfl (Nat.le_of_ble_eq_true rfl) (fun E9 w9 hn9 hm9 => ?_)
  refine loop_i (fun j st => ∃ e q : Nat, st = endSt (.pt (bC ⟨levels, order, types, .mk rh rp⟩ lat (.pt (pC ⟨levels, order, types, .mk rh rp⟩ ord a b c e0) 0) m) 0) (types.length + 1) q e ∧ e ≤ types.length + 1 ∧ q < types.length ∧ endI ⟨levels, order, types, .mk rh rp⟩ (types.length + 1) i = endI ⟨levels, order, types, .mk rh rp⟩ (types.length + 1 - e) q ∧ j = types.length + 1 - e) (types.length + 1)
    (endSt (.pt (bC ⟨levels, order, types, .mk rh rp⟩ lat (.pt (pC ⟨levels, order, types, .mk rh rp⟩ ord a b c e0) 0) m) 0) (types.length + 1) i 0) (weak_mk ⟨_, rfl⟩ (by repeat' (first | exact rfl | exact we_rfl rfl | refine ⟨_, _, rfl, ?_, ?_⟩)) rfl rfl rfl (by repeat' (first | exact trivial | exact we_rfl rfl | exact we_int hcnt | refine ⟨⟨_, rfl, ?_⟩, ?_⟩))) ⟨0, i, rfl, by omega, hi, rfl, by omega⟩ ?_
  rintro j st ⟨e, q, rfl, he, hq, heq, rfl⟩
  refine br (fun hL => ?_) (fun hL => ?_)
  · have hlt : e < types.length + 1 := by have := hL; simp at this; omega
    obtain ⟨x, hx⟩ : ∃ x, types[q]? = some x := ⟨_, List.getElem?_eq_getElem hq⟩
    have hrx := hr x (List.mem_of_getElem? hx)
    obtain ⟨xw, ⟨xh, xp⟩⟩ := x
    have hst : endI ⟨levels, order, types, .mk rh rp⟩ (types.length + 1 - e) q = if xh.kind = 9 then endI ⟨levels, order, types, .mk rh rp⟩ (types.length + 1 - (e + 1)) ((ixOf (tL ⟨levels, order, types, .mk rh rp⟩) xh.name.s).getD 0) else some q := by
      rw [show types.length + 1 - e = (types.length + 1 - (e + 1)) + 1 by omega, endI]
      simp only [hx]
      rfl
    rw [hst] at heq
    refine ⟨_, ⟨by omega, dNms_get hx⟩, ?_⟩
    refine br (fun h9 => ?_) (fun h9 => ?_)
    · have h9 : ¬ xh.kind = 9 := by simpa using h9
      rw [if_neg h9] at heq
      rw [heq]
      exact (rfl : _ = _)
    have h9 : xh.kind = 9 := by simpa using h9
    rw [if_pos h9] at heq
    have hne : ixOf (tL ⟨levels, order, types, .mk rh rp⟩) xh.name.s ≠ none := by
      have := of_decide_eq_true hrx
      exact this h9
    obtain ⟨k, hk⟩ := Option.ne_none_iff_exists'.1 hne
    have hkl := (ixOf_some hk).1
    rw [hk] at heq
    have hf := tfind_spec (tL ⟨levels, order, types, .mk rh rp⟩) ord xh.name.s hT hol
    rw [hk] at hf
    refine drawG_i (fun _ => false) mo (by decide +kernel) ?_
    refine callD_p (enters_of Tryz.func101 (by decide +kernel) rfl) (hf) (by repeat' (first | exact rfl | exact trivial | exact Or.inr (Or.inl ⟨_, rfl⟩) | exact Or.inr ⟨_, rfl⟩ | exact Or.inl ⟨rfl, rfl⟩ | exact Or.inl rfl | refine Or.inr ⟨_, _, rfl, Nat.zero_le _, rfl, ?_⟩ | refine ⟨_, _, rfl, ?_, ?_⟩ | refine ⟨_, rfl, ?_⟩ | refine Or.inr (Or.inr (Or.inr ⟨_, _, rfl, ?_⟩)) | exact Or.inl rfl | refine Or.inr ?_)) rfl ?_
    exact ⟨endSt (.pt (bC ⟨levels, order, types, .mk rh rp⟩ lat (.pt (pC ⟨levels, order, types, .mk rh rp⟩ ord a b c e0) 0) m) 0) (types.length + 1) k (e + 1), (weak_mk ⟨_, rfl⟩ (by repeat' (first | exact rfl | exact we_rfl rfl | refine ⟨_, _, rfl, ?_, ?_⟩)) rfl rfl rfl (by repeat' (first | exact trivial | exact we_rfl rfl | exact we_int (nxt hlt (by omega)) | refine ⟨⟨_, rfl, ?_⟩, ?_⟩))), types.length + 1 - (e + 1), by omega, e + 1, k, rfl, by omega, by omega, heq, rfl⟩
  · have hge : e = types.length + 1 := by have := hL; simp at this; omega
    subst hge
    rw [Nat.sub_self] at heq
    rw [heq]
    exact (rfl : _ = _)

/-! ### loops -/
def loopF (s : Sch) : Ft :=
  match firstN (fun i => (endI s (s.types.length + 1) i).isNone) s.types.length with
  | none => (0, 0)
  | some i => (11, atN (tNm s) i)

abbrev loopsSt (B : DV) (s : Sch) (e : Nat) : St :=
  ⟨[(0, ⟨[], B⟩), (2, ⟨[], .loc 0 0⟩), (9, ⟨[], .sl 11 (dNms s.types) none⟩), (10, ⟨[], .v (.int .i64 (dNms s.types).length)⟩), (11, ⟨[], .v (.int .i64 e)⟩)], [[.v (.int .i64 0), .v (.int .i64 0)]], []⟩

theorem loops_spec (s : Sch) (lat : DV) (ord : List Nat) (a b c e0 : DV) (m : Int) (hT : TblOK (tL s) ord) (hol : ord.length ≤ 1099511627776) (hl : s.types.length ≤ 64) (hr : ∀ x ∈ s.types, refB s x.2 = true) :
    EvP Tryz.prog 93 [.pt (bC s lat (.pt (pC s ord a b c e0) 0) m) 0] (loopF s).d := by
  have hend := end_spec s lat ord a b c e0 m hT hol hl hr
  have hN := dNms_len s.types
  have hF := loopF.eq_1 s
  obtain ⟨levels, order, types, ⟨rh, rp⟩⟩ := s
  simp only at hl hr hend hN
  refine ev_go (P := Tryz.prog) tt tt_ok 5000 26 [.cell 2 33] Tryz.func93 rfl Tryz.ntmps93 rfl (Nat.le_of_ble_eq_true rfl) (fun E9 w9 hn9 hm9 => ?_)
  refine loop_i (fun j st => ∃ e : Nat, st = loopsSt (.pt (bC ⟨levels, order, types, .mk rh rp⟩ lat (.pt (pC ⟨levels, order, types, .mk rh rp⟩ ord a b c e0) 0) m) 0) ⟨levels, order, types, .mk rh rp⟩ e ∧ e ≤ types.length ∧ (∀ i, i < e → (endI ⟨levels, order, types, .mk rh rp⟩ (types.length + 1) i).isNone = false) ∧ j = types.length - e) types.length
    (loopsSt (.pt (bC ⟨levels, order, types, .mk rh rp⟩ lat (.pt (pC ⟨levels, order, types, .mk rh rp⟩ ord a b c e0) 0) m) 0) ⟨levels, order, types, .mk rh rp⟩ 0) (weak_mk ⟨_, rfl⟩ (by repeat' (first | exact rfl | exact we_rfl rfl | refine ⟨_, _, rfl, ?_, ?_⟩)) rfl rfl rfl (by repeat' (first | exact trivial | exact we_rfl rfl | refine ⟨⟨_, rfl, ?_⟩, ?_⟩))) ⟨0, rfl, by omega, fun _ h => by omega, by omega⟩ ?_
  rintro j st ⟨e, rfl, he, hno, rfl⟩
  refine br (fun hL => ?_) (fun hL => ?_)
  · have hlt : e < types.length := by have := hL; simp [hN] at this; exact this
    obtain ⟨x, hx⟩ : ∃ x, types[e]? = some x := ⟨_, List.getElem?_eq_getElem hlt⟩
    have hxn : (tNm ⟨levels, order, types, .mk rh rp⟩)[e]? = some x.1 := by simp [tNm, hx]
    have h1 := hend e hlt
    obtain ⟨xw, ⟨xh, xp⟩⟩ := x
    refine ⟨_, ⟨by omega, dNms_get hx⟩, ?_⟩
    refine call_p (enters_of Tryz.func150 (by decide +kernel) rfl) (h1) (by repeat' (first | exact rfl | exact trivial | exact Or.inr (Or.inl ⟨_, rfl⟩) | exact Or.inr ⟨_, rfl⟩ | exact Or.inl ⟨rfl, rfl⟩ | exact Or.inl rfl | refine Or.inr ⟨_, _, rfl, Nat.zero_le _, rfl, ?_⟩ | refine ⟨_, _, rfl, ?_, ?_⟩ | refine ⟨_, rfl, ?_⟩ | refine Or.inr (Or.inr (Or.inr ⟨_, _, rfl, ?_⟩)) | exact Or.inl rfl | refine Or.inr ?_)) rfl ?_
    cases hE : endI ⟨levels, order, types, .mk rh rp⟩ (types.length + 1) e with
    | none =>
      have hfn := firstN_some (p := fun i => (endI ⟨levels, order, types, .mk rh rp⟩ (types.length + 1) i).isNone) hlt (by simp only [hE]; rfl) hno
      simp only [hfn] at hF
      rw [atN_get hxn] at hF
      refine ⟨_, ?_, rfl⟩
      rw [hF]
      exact (by repeat' (first | exact rfl | exact trivial | exact Or.inr (Or.inl ⟨_, rfl⟩) | exact Or.inr ⟨_, rfl⟩ | exact Or.inl ⟨rfl, rfl⟩ | exact Or.inl rfl | refine Or.inr ⟨_, _, rfl, Nat.zero_le _, rfl, ?_⟩ | refine ⟨_, _, rfl, ?_, ?_⟩ | refine ⟨_, rfl, ?_⟩ | refine Or.inr (Or.inr (Or.inr ⟨_, _, rfl, ?_⟩)) | exact Or.inl rfl | refine Or.inr ?_))
    | some k =>
      refine ⟨loopsSt (.pt (bC ⟨levels, order, types, .mk rh rp⟩ lat (.pt (pC ⟨levels, order, types, .mk rh rp⟩ ord a b c e0) 0) m) 0) ⟨levels, order, types, .mk rh rp⟩ (e + 1), (weak_mk ⟨_, rfl⟩ (by repeat' (first | exact rfl | exact we_rfl rfl | refine ⟨_, _, rfl, ?_, ?_⟩)) rfl rfl rfl (by repeat' (first | exact trivial | exact we_rfl rfl | exact we_int (nxt hlt (by omega)) | refine ⟨⟨_, rfl, ?_⟩, ?_⟩))), types.length - (e + 1), by omega, e + 1, rfl, by omega, fun i hi => ?_, rfl⟩
      rcases Nat.lt_succ_iff_lt_or_eq.1 hi with hi | rfl
      · exact hno i hi
      · rw [hE]; rfl
  · have hge : e = types.length := by have := hL; simp [hN] at this; omega
    subst hge
    simp only [firstN_none hno] at hF
    refine ⟨_, ?_, rfl⟩
    rw [hF]
    exact (by repeat' (first | exact rfl | exact trivial | exact Or.inr (Or.inl ⟨_, rfl⟩) | exact Or.inr ⟨_, rfl⟩ | exact Or.inl ⟨rfl, rfl⟩ | exact Or.inl rfl | refine Or.inr ⟨_, _, rfl, Nat.zero_le _, rfl, ?_⟩ | refine ⟨_, _, rfl, ?_, ?_⟩ | refine ⟨_, rfl, ?_⟩ | refine Or.inr (Or.inr (Or.inr ⟨_, _, rfl, ?_⟩)) | exact Or.inl rfl | refine Or.inr ?_))

/-! ### known -/
mutual
/-- The first name in a type that nothing has. -/
def knT (X : Lx) (L : List ByteArray) : Ty → Ft
  | .mk h ps => if h.kind = 9 ∧ ixOf L h.name.s = none then (15, h.name.a) else knP X L ps
def knP (X : Lx) (L : List ByteArray) : Pts → Ft
  | .nil => (0, 0)
  | .cons p t r => if (X.bad p.label).1 ≠ 0 then X.bad p.label else if (X.bad p.cl).1 ≠ 0 then X.bad p.cl else if p.bare then knP X L r else if (knT X L t).1 ≠ 0 then knT X L t else knP X L r
end

abbrev knSt (B : DV) (t : Ty) (ps : Pts) (e : Nat) : St :=
  ⟨[(0, ⟨[], B⟩), (3, ⟨[], .loc 0 0⟩), (4, ⟨[], .loc 1 0⟩), (38, ⟨[], .sl 18 (dPts ps) none⟩), (39, ⟨[], .v (.int .i64 (dPts ps).length)⟩), (40, ⟨[], .v (.int .i64 e)⟩)], [dTy t, [.v (.int .i64 0), .v (.int .i64 0)]], []⟩
abbrev kn2St (B : DV) (t : Ty) (ps : Pts) (p : Ph) (u : Ty) (e q : Nat) : St :=
  ⟨[(0, ⟨[], B⟩), (3, ⟨[], .loc 0 0⟩), (4, ⟨[], .loc 1 0⟩), (38, ⟨[], .sl 18 (dPts ps) none⟩), (39, ⟨[], .v (.int .i64 (dPts ps).length)⟩), (40, ⟨[], .v (.int .i64 e)⟩), (8, ⟨[], .loc 2 0⟩), (49, ⟨[], .sl 1 [[.sl 2 (dWds p.label) none], [.sl 2 (dWds p.cl) none]] none⟩), (50, ⟨[], .v (.int .i64 (2 : Nat))⟩), (51, ⟨[], .v (.int .i64 q)⟩)], [dTy t, [.v (.int .i64 0), .v (.int .i64 0)], dPh p (dTy u)], []⟩

theorem known_spec {X : Lx} (hX : X.OK) (s : Sch) (ord : List Nat) (a b c e0 : DV) (m : Int) (hT : TblOK (tL s) ord) (hol : ord.length ≤ 1099511627776) : ∀ (k : Nat) (t : Ty), t.wt ≤ k → t.wt ≤ 1099511627776 →
    EvP Tryz.prog 92 [.pt (bC s X.pd (.pt (pC s ord a b c e0) 0) m) 0, .agg (dTy t)] (knT X (tL s) t).d
  | 0, t, hn, _ => by have := t.wt_pos; omega
  | k + 1, .mk h ps, hn, hbig => by
    have ih := known_spec hX s ord a b c e0 m hT hol k
    simp only [Ty.wt, Hd.wt] at hn hbig
    have hpl := ps.wt_len
    obtain ⟨levels, order, types, ⟨rh, rp⟩⟩ := s
    have hf := tfind_spec (tL ⟨levels, order, types, .mk rh rp⟩) ord h.name.s hT hol
    have hS : knT X (tL ⟨levels, order, types, .mk rh rp⟩) (.mk h ps) = if h.kind = 9 ∧ ixOf (tL ⟨levels, order, types, .mk rh rp⟩) h.name.s = none then (15, h.name.a) else knP X (tL ⟨levels, order, types, .mk rh rp⟩) ps := by rw [knT]
    refine ev_go (P := Tryz.prog) tt tt_ok 5000 81 [.cell 4 33] Tryz.func92 rfl Tryz.ntmps92 rfl (Nat.le_of_ble_eq_true rfl) (fun E9 w9 hn9 hm9 => ?_)
    generalize knT X (tL ⟨levels, order, types, .mk rh rp⟩) (.mk h ps) = F at hS ⊢
    have hS0 : knP X (tL ⟨levels, order, types, .mk rh rp⟩) ps = knP X (tL ⟨levels, order, types, .mk rh rp⟩) (ps.drop 0) := by rw [Pts.drop]
    refine br (fun h9 => ?_) (fun h9 => ?_)
    · have h9 : h.kind = 9 := by simpa using h9
      refine drawG_i (fun _ => false) mo (by decide +kernel) ?_
      cases hx : ixOf (tL ⟨levels, order, types, .mk rh rp⟩) h.name.s with
      | none =>
        rw [if_pos ⟨h9, hx⟩] at hS
        rw [hx] at hf
        refine callD_p (enters_of Tryz.func101 (by decide +kernel) rfl) (hf) (by repeat' (first | exact rfl | exact trivial | exact Or.inr (Or.inl ⟨_, rfl⟩) | exact Or.inr ⟨_, rfl⟩ | exact Or.inl ⟨rfl, rfl⟩ | exact Or.inl rfl | refine Or.inr ⟨_, _, rfl, Nat.zero_le _, rfl, ?_⟩ | refine ⟨_, _, rfl, ?_, ?_⟩ | refine ⟨_, rfl, ?_⟩ | refine Or.inr (Or.inr (Or.inr ⟨_, _, rfl, ?_⟩)) | exact Or.inl rfl | refine Or.inr ?_)) rfl ?_
        refine ⟨_, ?_, rfl⟩
        rw [hS]
        exact (by repeat' (first | exact rfl | exact trivial | exact Or.inr (Or.inl ⟨_, rfl⟩) | exact Or.inr ⟨_, rfl⟩ | exact Or.inl ⟨rfl, rfl⟩ | exact Or.inl rfl | refine Or.inr ⟨_, _, rfl, Nat.zero_le _, rfl, ?_⟩ | refine ⟨_, _, rfl, ?_, ?_⟩ | refine ⟨_, rfl, ?_⟩ | refine Or.inr (Or.inr (Or.inr ⟨_, _, rfl, ?_⟩)) | exact Or.inl rfl | refine Or.inr ?_))
      | some i =>
        rw [if_neg (by rw [hx]; simp), hS0] at hS
        rw [hx] at hf
        refine callD_p (enters_of Tryz.func101 (by decide +kernel) rfl) (hf) (by repeat' (first | exact rfl | exact trivial | exact Or.inr (Or.inl ⟨_, rfl⟩) | exact Or.inr ⟨_, rfl⟩ | exact Or.inl ⟨rfl, rfl⟩ | exact Or.inl rfl | refine Or.inr ⟨_, _, rfl, Nat.zero_le _, rfl, ?_⟩ | refine ⟨_, _, rfl, ?_, ?_⟩ | refine ⟨_, rfl, ?_⟩ | refine Or.inr (Or.inr (Or.inr ⟨_, _, rfl, ?_⟩)) | exact Or.inl rfl | refine Or.inr ?_)) rfl ?_
        refine loop_i (fun j st => ∃ e : Nat, st = knSt (.pt (bC ⟨levels, order, types, .mk rh rp⟩ X.pd (.pt (pC ⟨levels, order, types, .mk rh rp⟩ ord a b c e0) 0) m) 0) (.mk h ps) ps e ∧ e ≤ ps.len ∧ F = knP X (tL ⟨levels, order, types, .mk rh rp⟩) (ps.drop e) ∧ j = ps.len - e) ps.len (knSt (.pt (bC ⟨levels, order, types, .mk rh rp⟩ X.pd (.pt (pC ⟨levels, order, types, .mk rh rp⟩ ord a b c e0) 0) m) 0) (.mk h ps) ps 0) (weak_mk ⟨_, rfl⟩ (by repeat' (first | exact rfl | exact we_rfl rfl | refine ⟨_, _, rfl, ?_, ?_⟩)) rfl rfl rfl (by repeat' (first | exact trivial | exact we_rfl rfl | refine ⟨⟨_, rfl, ?_⟩, ?_⟩))) ⟨0, rfl, by omega, hS, by omega⟩ ?_
        rintro j st ⟨e, rfl, he, heq, rfl⟩
        refine br (fun hL => ?_) (fun hL => ?_)
        · have hlt : e < ps.len := by simpa [dPts_len] using hL
          obtain ⟨p, t, hx⟩ := Pts.get_lt hlt
          have hwt := Pts.wt_mem (List.mem_of_getElem? hx)
          rw [Pts.drop_cons hx] at heq
          simp only [knP] at heq
          have hw1 : wdsWt p.label + wdsWt p.cl ≤ p.wt := by simp only [Ph.wt]; omega
          obtain ⟨u, us⟩ := t
          refine ⟨_, ⟨by omega, dPts_get hx⟩, ?_⟩
          refine loop_i (fun j st => ∃ q : Nat, st = kn2St (.pt (bC ⟨levels, order, types, .mk rh rp⟩ X.pd (.pt (pC ⟨levels, order, types, .mk rh rp⟩ ord a b c e0) 0) m) 0) (.mk h ps) ps p (.mk u us) e q ∧ q ≤ 2 ∧ (1 ≤ q → (X.bad p.label).1 = 0) ∧ (2 ≤ q → (X.bad p.cl).1 = 0) ∧ j = 2 - q) 2 (kn2St (.pt (bC ⟨levels, order, types, .mk rh rp⟩ X.pd (.pt (pC ⟨levels, order, types, .mk rh rp⟩ ord a b c e0) 0) m) 0) (.mk h ps) ps p (.mk u us) e 0) (weak_mk ⟨_, rfl⟩ (by repeat' (first | exact rfl | exact we_rfl rfl | refine ⟨_, _, rfl, ?_, ?_⟩)) rfl rfl rfl (by repeat' (first | exact trivial | exact we_rfl rfl | refine ⟨⟨_, rfl, ?_⟩, ?_⟩))) ⟨0, rfl, by omega, fun h => by omega, fun h => by omega, by omega⟩ ?_
          rintro j st ⟨q, rfl, hq, hq1, hq2, rfl⟩
          refine br (fun hL2 => ?_) (fun hL2 => ?_)
          · have hq3 : q = 0 ∨ q = 1 := by have := hL2; simp at this; omega
            rcases hq3 with rfl | rfl
            · refine ⟨_, ⟨by omega, rfl⟩, ?_⟩
              refine call_p (enters_of Tryz.func149 (by decide +kernel) rfl) (Lx.of_spec hX p.label (by omega)) (by repeat' (first | exact rfl | exact trivial | exact Or.inr (Or.inl ⟨_, rfl⟩) | exact Or.inr ⟨_, rfl⟩ | exact Or.inl ⟨rfl, rfl⟩ | exact Or.inl rfl | refine Or.inr ⟨_, _, rfl, Nat.zero_le _, rfl, ?_⟩ | refine ⟨_, _, rfl, ?_, ?_⟩ | refine ⟨_, rfl, ?_⟩ | refine Or.inr (Or.inr (Or.inr ⟨_, _, rfl, ?_⟩)) | exact Or.inl rfl | refine Or.inr ?_)) rfl ?_
              refine br (fun hb => ?_) (fun hb => ?_)
              · have hb : (X.bad p.label).1 ≠ 0 := by simpa using hb
                rw [if_pos hb] at heq
                refine ⟨_, ?_, rfl⟩
                rw [heq]
                exact (by repeat' (first | exact rfl | exact trivial | exact Or.inr (Or.inl ⟨_, rfl⟩) | exact Or.inr ⟨_, rfl⟩ | exact Or.inl ⟨rfl, rfl⟩ | exact Or.inl rfl | refine Or.inr ⟨_, _, rfl, Nat.zero_le _, rfl, ?_⟩ | refine ⟨_, _, rfl, ?_, ?_⟩ | refine ⟨_, rfl, ?_⟩ | refine Or.inr (Or.inr (Or.inr ⟨_, _, rfl, ?_⟩)) | exact Or.inl rfl | refine Or.inr ?_))
              · have hb : (X.bad p.label).1 = 0 := by simpa using hb
                exact ⟨kn2St (.pt (bC ⟨levels, order, types, .mk rh rp⟩ X.pd (.pt (pC ⟨levels, order, types, .mk rh rp⟩ ord a b c e0) 0) m) 0) (.mk h ps) ps p (.mk u us) e 1, (weak_mk ⟨_, rfl⟩ (by repeat' (first | exact rfl | exact we_rfl rfl | refine ⟨_, _, rfl, ?_, ?_⟩)) rfl rfl rfl (by repeat' (first | exact trivial | exact we_rfl rfl | exact we_int (nxt (e := 0) (n := 2) (by omega) (by omega)) | refine ⟨⟨_, rfl, ?_⟩, ?_⟩))), 1, by omega, 1, rfl, by omega, fun _ => hb, fun h => by omega, rfl⟩
            · have hb0 := hq1 (by omega)
              refine ⟨_, ⟨by omega, rfl⟩, ?_⟩
              refine call_p (enters_of Tryz.func149 (by decide +kernel) rfl) (Lx.of_spec hX p.cl (by omega)) (by repeat' (first | exact rfl | exact trivial | exact Or.inr (Or.inl ⟨_, rfl⟩) | exact Or.inr ⟨_, rfl⟩ | exact Or.inl ⟨rfl, rfl⟩ | exact Or.inl rfl | refine Or.inr ⟨_, _, rfl, Nat.zero_le _, rfl, ?_⟩ | refine ⟨_, _, rfl, ?_, ?_⟩ | refine ⟨_, rfl, ?_⟩ | refine Or.inr (Or.inr (Or.inr ⟨_, _, rfl, ?_⟩)) | exact Or.inl rfl | refine Or.inr ?_)) rfl ?_
              refine br (fun hb => ?_) (fun hb => ?_)
              · have hb : (X.bad p.cl).1 ≠ 0 := by simpa using hb
                rw [if_neg (by rw [hb0]; simp), if_pos hb] at heq
                refine ⟨_, ?_, rfl⟩
                rw [heq]
                exact (by repeat' (first | exact rfl | exact trivial | exact Or.inr (Or.inl ⟨_, rfl⟩) | exact Or.inr ⟨_, rfl⟩ | exact Or.inl ⟨rfl, rfl⟩ | exact Or.inl rfl | refine Or.inr ⟨_, _, rfl, Nat.zero_le _, rfl, ?_⟩ | refine ⟨_, _, rfl, ?_, ?_⟩ | refine ⟨_, rfl, ?_⟩ | refine Or.inr (Or.inr (Or.inr ⟨_, _, rfl, ?_⟩)) | exact Or.inl rfl | refine Or.inr ?_))
              · have hb : (X.bad p.cl).1 = 0 := by simpa using hb
                exact ⟨kn2St (.pt (bC ⟨levels, order, types, .mk rh rp⟩ X.pd (.pt (pC ⟨levels, order, types, .mk rh rp⟩ ord a b c e0) 0) m) 0) (.mk h ps) ps p (.mk u us) e 2, (weak_mk ⟨_, rfl⟩ (by repeat' (first | exact rfl | exact we_rfl rfl | refine ⟨_, _, rfl, ?_, ?_⟩)) rfl rfl rfl (by repeat' (first | exact trivial | exact we_rfl rfl | exact we_int (nxt (e := 1) (n := 2) (by omega) (by omega)) | refine ⟨⟨_, rfl, ?_⟩, ?_⟩))), 0, by omega, 2, rfl, by omega, fun _ => hb0, fun _ => hb, rfl⟩
          · have hq3 : q = 2 := by have := hL2; simp at this; omega
            subst hq3
            have hb0 := hq1 (by omega)
            have hb1 := hq2 (by omega)
            rw [if_neg (by rw [hb0]; simp), if_neg (by rw [hb1]; simp)] at heq
            refine br (fun hB => ?_) (fun hB => ?_)
            · have hB : p.bare = true := hB
              rw [if_pos hB] at heq
              exact ⟨knSt (.pt (bC ⟨levels, order, types, .mk rh rp⟩ X.pd (.pt (pC ⟨levels, order, types, .mk rh rp⟩ ord a b c e0) 0) m) 0) (.mk h ps) ps (e + 1), (weak_mk ⟨_, rfl⟩ (by repeat' (first | exact rfl | exact we_rfl rfl | refine ⟨_, _, rfl, ?_, ?_⟩)) rfl rfl rfl (by repeat' (first | exact trivial | exact we_rfl rfl | exact we_int (nxt hlt (by omega)) | refine ⟨⟨_, rfl, ?_⟩, ?_⟩))), ps.len - (e + 1), by omega, e + 1, rfl, by omega, heq, rfl⟩
            · have hB : p.bare = false := hB
              rw [if_neg (by rw [hB]; decide)] at heq
              refine call_p (enters_of Tryz.func92 (by decide +kernel) rfl) (ih (.mk u us) (by omega) (by omega)) (by repeat' (first | exact rfl | exact trivial | exact Or.inr (Or.inl ⟨_, rfl⟩) | exact Or.inr ⟨_, rfl⟩ | exact Or.inl ⟨rfl, rfl⟩ | exact Or.inl rfl | refine Or.inr ⟨_, _, rfl, Nat.zero_le _, rfl, ?_⟩ | refine ⟨_, _, rfl, ?_, ?_⟩ | refine ⟨_, rfl, ?_⟩ | refine Or.inr (Or.inr (Or.inr ⟨_, _, rfl, ?_⟩)) | exact Or.inl rfl | refine Or.inr ?_)) rfl ?_
              refine br (fun hb => ?_) (fun hb => ?_)
              · have hb : (knT X (tL ⟨levels, order, types, .mk rh rp⟩) (.mk u us)).1 ≠ 0 := by simpa using hb
                rw [if_pos hb] at heq
                refine ⟨_, ?_, rfl⟩
                rw [heq]
                exact (by repeat' (first | exact rfl | exact trivial | exact Or.inr (Or.inl ⟨_, rfl⟩) | exact Or.inr ⟨_, rfl⟩ | exact Or.inl ⟨rfl, rfl⟩ | exact Or.inl rfl | refine Or.inr ⟨_, _, rfl, Nat.zero_le _, rfl, ?_⟩ | refine ⟨_, _, rfl, ?_, ?_⟩ | refine ⟨_, rfl, ?_⟩ | refine Or.inr (Or.inr (Or.inr ⟨_, _, rfl, ?_⟩)) | exact Or.inl rfl | refine Or.inr ?_))
              · have hb : (knT X (tL ⟨levels, order, types, .mk rh rp⟩) (.mk u us)).1 = 0 := by simpa using hb
                rw [if_neg (by rw [hb]; simp)] at heq
                exact ⟨knSt (.pt (bC ⟨levels, order, types, .mk rh rp⟩ X.pd (.pt (pC ⟨levels, order, types, .mk rh rp⟩ ord a b c e0) 0) m) 0) (.mk h ps) ps (e + 1), (weak_mk ⟨_, rfl⟩ (by repeat' (first | exact rfl | exact we_rfl rfl | refine ⟨_, _, rfl, ?_, ?_⟩)) rfl rfl rfl (by repeat' (first | exact trivial | exact we_rfl rfl | exact we_int (nxt hlt (by omega)) | refine ⟨⟨_, rfl, ?_⟩, ?_⟩))), ps.len - (e + 1), by omega, e + 1, rfl, by omega, heq, rfl⟩
        · have hge : e = ps.len := by simp [dPts_len] at hL; omega
          rw [hge, Pts.drop_len] at heq
          simp only [knP] at heq
          refine ⟨_, ?_, rfl⟩
          rw [heq]
          exact (by repeat' (first | exact rfl | exact trivial | exact Or.inr (Or.inl ⟨_, rfl⟩) | exact Or.inr ⟨_, rfl⟩ | exact Or.inl ⟨rfl, rfl⟩ | exact Or.inl rfl | refine Or.inr ⟨_, _, rfl, Nat.zero_le _, rfl, ?_⟩ | refine ⟨_, _, rfl, ?_, ?_⟩ | refine ⟨_, rfl, ?_⟩ | refine Or.inr (Or.inr (Or.inr ⟨_, _, rfl, ?_⟩)) | exact Or.inl rfl | refine Or.inr ?_))
    · have h9 : ¬ h.kind = 9 := by simpa using h9
      rw [if_neg (fun hc => h9 hc.1), hS0] at hS
      refine loop_i (fun j st => ∃ e : Nat, st = knSt (.pt (bC ⟨levels, order, types, .mk rh rp⟩ X.pd (.pt (pC ⟨levels, order, types, .mk rh rp⟩ ord a b c e0) 0) m) 0) (.mk h ps) ps e ∧ e ≤ ps.len ∧ F = knP X (tL ⟨levels, order, types, .mk rh rp⟩) (ps.drop e) ∧ j = ps.len - e) ps.len (knSt (.pt (bC ⟨levels, order, types, .mk rh rp⟩ X.pd (.pt (pC ⟨levels, order, types, .mk rh rp⟩ ord a b c e0) 0) m) 0) (.mk h ps) ps 0) (weak_mk ⟨_, rfl⟩ (by repeat' (first | exact rfl | exact we_rfl rfl | refine ⟨_, _, rfl, ?_, ?_⟩)) rfl rfl rfl (by repeat' (first | exact trivial | exact we_rfl rfl | refine ⟨⟨_, rfl, ?_⟩, ?_⟩))) ⟨0, rfl, by omega, hS, by omega⟩ ?_
      rintro j st ⟨e, rfl, he, heq, rfl⟩
      refine br (fun hL => ?_) (fun hL => ?_)
      · have hlt : e < ps.len := by simpa [dPts_len] using hL
        obtain ⟨p, t, hx⟩ := Pts.get_lt hlt
        have hwt := Pts.wt_mem (List.mem_of_getElem? hx)
        rw [Pts.drop_cons hx] at heq
        simp only [knP] at heq
        have hw1 : wdsWt p.label + wdsWt p.cl ≤ p.wt := by simp only [Ph.wt]; omega
        obtain ⟨u, us⟩ := t
        refine ⟨_, ⟨by omega, dPts_get hx⟩, ?_⟩
        refine loop_i (fun j st => ∃ q : Nat, st = kn2St (.pt (bC ⟨levels, order, types, .mk rh rp⟩ X.pd (.pt (pC ⟨levels, order, types, .mk rh rp⟩ ord a b c e0) 0) m) 0) (.mk h ps) ps p (.mk u us) e q ∧ q ≤ 2 ∧ (1 ≤ q → (X.bad p.label).1 = 0) ∧ (2 ≤ q → (X.bad p.cl).1 = 0) ∧ j = 2 - q) 2 (kn2St (.pt (bC ⟨levels, order, types, .mk rh rp⟩ X.pd (.pt (pC ⟨levels, order, types, .mk rh rp⟩ ord a b c e0) 0) m) 0) (.mk h ps) ps p (.mk u us) e 0) (weak_mk ⟨_, rfl⟩ (by repeat' (first | exact rfl | exact we_rfl rfl | refine ⟨_, _, rfl, ?_, ?_⟩)) rfl rfl rfl (by repeat' (first | exact trivial | exact we_rfl rfl | refine ⟨⟨_, rfl, ?_⟩, ?_⟩))) ⟨0, rfl, by omega, fun h => by omega, fun h => by omega, by omega⟩ ?_
        rintro j st ⟨q, rfl, hq, hq1, hq2, rfl⟩
        refine br (fun hL2 => ?_) (fun hL2 => ?_)
        · have hq3 : q = 0 ∨ q = 1 := by have := hL2; simp at this; omega
          rcases hq3 with rfl | rfl
          · refine ⟨_, ⟨by omega, rfl⟩, ?_⟩
            refine call_p (enters_of Tryz.func149 (by decide +kernel) rfl) (Lx.of_spec hX p.label (by omega)) (by repeat' (first | exact rfl | exact trivial | exact Or.inr (Or.inl ⟨_, rfl⟩) | exact Or.inr ⟨_, rfl⟩ | exact Or.inl ⟨rfl, rfl⟩ | exact Or.inl rfl | refine Or.inr ⟨_, _, rfl, Nat.zero_le _, rfl, ?_⟩ | refine ⟨_, _, rfl, ?_, ?_⟩ | refine ⟨_, rfl, ?_⟩ | refine Or.inr (Or.inr (Or.inr ⟨_, _, rfl, ?_⟩)) | exact Or.inl rfl | refine Or.inr ?_)) rfl ?_
            refine br (fun hb => ?_) (fun hb => ?_)
            · have hb : (X.bad p.label).1 ≠ 0 := by simpa using hb
              rw [if_pos hb] at heq
              refine ⟨_, ?_, rfl⟩
              rw [heq]
              exact (by repeat' (first | exact rfl | exact trivial | exact Or.inr (Or.inl ⟨_, rfl⟩) | exact Or.inr ⟨_, rfl⟩ | exact Or.inl ⟨rfl, rfl⟩ | exact Or.inl rfl | refine Or.inr ⟨_, _, rfl, Nat.zero_le _, rfl, ?_⟩ | refine ⟨_, _, rfl, ?_, ?_⟩ | refine ⟨_, rfl, ?_⟩ | refine Or.inr (Or.inr (Or.inr ⟨_, _, rfl, ?_⟩)) | exact Or.inl rfl | refine Or.inr ?_))
            · have hb : (X.bad p.label).1 = 0 := by simpa using hb
              exact ⟨kn2St (.pt (bC ⟨levels, order, types, .mk rh rp⟩ X.pd (.pt (pC ⟨levels, order, types, .mk rh rp⟩ ord a b c e0) 0) m) 0) (.mk h ps) ps p (.mk u us) e 1, (weak_mk ⟨_, rfl⟩ (by repeat' (first | exact rfl | exact we_rfl rfl | refine ⟨_, _, rfl, ?_, ?_⟩)) rfl rfl rfl (by repeat' (first | exact trivial | exact we_rfl rfl | exact we_int (nxt (e := 0) (n := 2) (by omega) (by omega)) | refine ⟨⟨_, rfl, ?_⟩, ?_⟩))), 1, by omega, 1, rfl, by omega, fun _ => hb, fun h => by omega, rfl⟩
          · have hb0 := hq1 (by omega)
            refine ⟨_, ⟨by omega, rfl⟩, ?_⟩
            refine call_p (enters_of Tryz.func149 (by decide +kernel) rfl) (Lx.of_spec hX p.cl (by omega)) (by repeat' (first | exact rfl | exact trivial | exact Or.inr (Or.inl ⟨_, rfl⟩) | exact Or.inr ⟨_, rfl⟩ | exact Or.inl ⟨rfl, rfl⟩ | exact Or.inl rfl | refine Or.inr ⟨_, _, rfl, Nat.zero_le _, rfl, ?_⟩ | refine ⟨_, _, rfl, ?_, ?_⟩ | refine ⟨_, rfl, ?_⟩ | refine Or.inr (Or.inr (Or.inr ⟨_, _, rfl, ?_⟩)) | exact Or.inl rfl | refine Or.inr ?_)) rfl ?_
            refine br (fun hb => ?_) (fun hb => ?_)
            · have hb : (X.bad p.cl).1 ≠ 0 := by simpa using hb
              rw [if_neg (by rw [hb0]; simp), if_pos hb] at heq
              refine ⟨_, ?_, rfl⟩
              rw [heq]
              exact (by repeat' (first | exact rfl | exact trivial | exact Or.inr (Or.inl ⟨_, rfl⟩) | exact Or.inr ⟨_, rfl⟩ | exact Or.inl ⟨rfl, rfl⟩ | exact Or.inl rfl | refine Or.inr ⟨_, _, rfl, Nat.zero_le _, rfl, ?_⟩ | refine ⟨_, _, rfl, ?_, ?_⟩ | refine ⟨_, rfl, ?_⟩ | refine Or.inr (Or.inr (Or.inr ⟨_, _, rfl, ?_⟩)) | exact Or.inl rfl | refine Or.inr ?_))
            · have hb : (X.bad p.cl).1 = 0 := by simpa using hb
              exact ⟨kn2St (.pt (bC ⟨levels, order, types, .mk rh rp⟩ X.pd (.pt (pC ⟨levels, order, types, .mk rh rp⟩ ord a b c e0) 0) m) 0) (.mk h ps) ps p (.mk u us) e 2, (weak_mk ⟨_, rfl⟩ (by repeat' (first | exact rfl | exact we_rfl rfl | refine ⟨_, _, rfl, ?_, ?_⟩)) rfl rfl rfl (by repeat' (first | exact trivial | exact we_rfl rfl | exact we_int (nxt (e := 1) (n := 2) (by omega) (by omega)) | refine ⟨⟨_, rfl, ?_⟩, ?_⟩))), 0, by omega, 2, rfl, by omega, fun _ => hb0, fun _ => hb, rfl⟩
        · have hq3 : q = 2 := by have := hL2; simp at this; omega
          subst hq3
          have hb0 := hq1 (by omega)
          have hb1 := hq2 (by omega)
          rw [if_neg (by rw [hb0]; simp), if_neg (by rw [hb1]; simp)] at heq
          refine br (fun hB => ?_) (fun hB => ?_)
          · have hB : p.bare = true := hB
            rw [if_pos hB] at heq
            exact ⟨knSt (.pt (bC ⟨levels, order, types, .mk rh rp⟩ X.pd (.pt (pC ⟨levels, order, types, .mk rh rp⟩ ord a b c e0) 0) m) 0) (.mk h ps) ps (e + 1), (weak_mk ⟨_, rfl⟩ (by repeat' (first | exact rfl | exact we_rfl rfl | refine ⟨_, _, rfl, ?_, ?_⟩)) rfl rfl rfl (by repeat' (first | exact trivial | exact we_rfl rfl | exact we_int (nxt hlt (by omega)) | refine ⟨⟨_, rfl, ?_⟩, ?_⟩))), ps.len - (e + 1), by omega, e + 1, rfl, by omega, heq, rfl⟩
          · have hB : p.bare = false := hB
            rw [if_neg (by rw [hB]; decide)] at heq
            refine call_p (enters_of Tryz.func92 (by decide +kernel) rfl) (ih (.mk u us) (by omega) (by omega)) (by repeat' (first | exact rfl | exact trivial | exact Or.inr (Or.inl ⟨_, rfl⟩) | exact Or.inr ⟨_, rfl⟩ | exact Or.inl ⟨rfl, rfl⟩ | exact Or.inl rfl | refine Or.inr ⟨_, _, rfl, Nat.zero_le _, rfl, ?_⟩ | refine ⟨_, _, rfl, ?_, ?_⟩ | refine ⟨_, rfl, ?_⟩ | refine Or.inr (Or.inr (Or.inr ⟨_, _, rfl, ?_⟩)) | exact Or.inl rfl | refine Or.inr ?_)) rfl ?_
            refine br (fun hb => ?_) (fun hb => ?_)
            · have hb : (knT X (tL ⟨levels, order, types, .mk rh rp⟩) (.mk u us)).1 ≠ 0 := by simpa using hb
              rw [if_pos hb] at heq
              refine ⟨_, ?_, rfl⟩
              rw [heq]
              exact (by repeat' (first | exact rfl | exact trivial | exact Or.inr (Or.inl ⟨_, rfl⟩) | exact Or.inr ⟨_, rfl⟩ | exact Or.inl ⟨rfl, rfl⟩ | exact Or.inl rfl | refine Or.inr ⟨_, _, rfl, Nat.zero_le _, rfl, ?_⟩ | refine ⟨_, _, rfl, ?_, ?_⟩ | refine ⟨_, rfl, ?_⟩ | refine Or.inr (Or.inr (Or.inr ⟨_, _, rfl, ?_⟩)) | exact Or.inl rfl | refine Or.inr ?_))
            · have hb : (knT X (tL ⟨levels, order, types, .mk rh rp⟩) (.mk u us)).1 = 0 := by simpa using hb
              rw [if_neg (by rw [hb]; simp)] at heq
              exact ⟨knSt (.pt (bC ⟨levels, order, types, .mk rh rp⟩ X.pd (.pt (pC ⟨levels, order, types, .mk rh rp⟩ ord a b c e0) 0) m) 0) (.mk h ps) ps (e + 1), (weak_mk ⟨_, rfl⟩ (by repeat' (first | exact rfl | exact we_rfl rfl | refine ⟨_, _, rfl, ?_, ?_⟩)) rfl rfl rfl (by repeat' (first | exact trivial | exact we_rfl rfl | exact we_int (nxt hlt (by omega)) | refine ⟨⟨_, rfl, ?_⟩, ?_⟩))), ps.len - (e + 1), by omega, e + 1, rfl, by omega, heq, rfl⟩
      · have hge : e = ps.len := by simp [dPts_len] at hL; omega
        rw [hge, Pts.drop_len] at heq
        simp only [knP] at heq
        refine ⟨_, ?_, rfl⟩
        rw [heq]
        exact (by repeat' (first | exact rfl | exact trivial | exact Or.inr (Or.inl ⟨_, rfl⟩) | exact Or.inr ⟨_, rfl⟩ | exact Or.inl ⟨rfl, rfl⟩ | exact Or.inl rfl | refine Or.inr ⟨_, _, rfl, Nat.zero_le _, rfl, ?_⟩ | refine ⟨_, _, rfl, ?_, ?_⟩ | refine ⟨_, rfl, ?_⟩ | refine Or.inr (Or.inr (Or.inr ⟨_, _, rfl, ?_⟩)) | exact Or.inl rfl | refine Or.inr ?_))
end Go.Proofs.YtmphiikdhifhjaaGreat
set_option maxRecDepth 100000
namespace Go.Proofs.YtmphiikdhifhjaaGreat
open Go Go.RowKit Dv Tryz

/-- What is wrong with the first of some types with which something is, the root last. -/
def eaL (F : Ty → Ft) (z : Ft) : List (Wd × Ty) → Ft
  | [] => z
  | x :: r => if (F x.2).1 ≠ 0 then F x.2 else eaL F z r
theorem eaL_drop {F : Ty → Ft} {z : Ft} {l : List (Wd × Ty)} {e : Nat} {x : Wd × Ty} (h : l[e]? = some x) : eaL F z (l.drop e) = if (F x.2).1 ≠ 0 then F x.2 else eaL F z (l.drop (e + 1)) := by
  rw [drop_cons h, eaL]

abbrev eachSt (B : DV) (fn : DV) (types : List (Wd × Ty)) (e : Nat) : St :=
  ⟨[(0, ⟨[], B⟩), (1, ⟨[], fn⟩), (4, ⟨[], .loc 0 0⟩), (12, ⟨[], .sl 11 (dNms types) none⟩), (13, ⟨[], .v (.int .i64 (dNms types).length)⟩), (14, ⟨[], .v (.int .i64 e)⟩)], [[.v (.int .i64 0), .v (.int .i64 0)]], []⟩

/-- each, of a thing that only reads. -/
theorem each_spec (s : Sch) (lat : DV) (pc : List DV) (m : Int) (hl : s.types.length ≤ 1099511627776) (g : Nat) (hg : Enters Tryz.prog g) (F : Ty → Ft)
    (hF : ∀ t, (t = s.root ∨ ∃ x ∈ s.types, t = x.2) → EvP Tryz.prog g [.pt (bC s lat (.pt pc 0) m) 0, .agg (dTy t)] (F t).d) :
    EvP Tryz.prog 90 [.pt (bC s lat (.pt pc 0) m) 0, .fn g [.pt (bC s lat (.pt pc 0) m) 0] []] (eaL F (F s.root) s.types).d := by
  have hN := dNms_len s.types
  obtain ⟨levels, order, types, ⟨rh, rp⟩⟩ := s
  simp only at hl hF hN
  have hroot := hF (.mk rh rp) (.inl rfl)
  have htypes : ∀ x ∈ types, _ := fun x hx => hF x.2 (.inr ⟨x, hx, rfl⟩)
  clear hF
  refine ev_go (P := Tryz.prog) tt tt_ok 5000 34 [.cell 4 33] Tryz.func90 rfl Tryz.ntmps90 rfl (Nat.le_of_ble_eq_true rfl) (fun E9 w9 hn9 hm9 => ?_)
  generalize hG : eaL F (F (.mk rh rp)) types = G
  have hG0 : G = eaL F (F (.mk rh rp)) (types.drop 0) := by rw [List.drop_zero, hG]
  refine loop_i (fun j st => ∃ e : Nat, st = eachSt (.pt (bC ⟨levels, order, types, .mk rh rp⟩ lat (.pt pc 0) m) 0) (.fn g [.pt (bC ⟨levels, order, types, .mk rh rp⟩ lat (.pt pc 0) m) 0] []) types e ∧ e ≤ types.length ∧ G = eaL F (F (.mk rh rp)) (types.drop e) ∧ j = types.length - e) types.length
    (eachSt (.pt (bC ⟨levels, order, types, .mk rh rp⟩ lat (.pt pc 0) m) 0) (.fn g [.pt (bC ⟨levels, order, types, .mk rh rp⟩ lat (.pt pc 0) m) 0] []) types 0) (weak_mk ⟨_, rfl⟩ (by repeat' (first | exact rfl | exact we_rfl rfl | refine ⟨_, _, rfl, ?_, ?_⟩)) rfl rfl rfl (by repeat' (first | exact trivial | exact we_rfl rfl | refine ⟨⟨_, rfl, ?_⟩, ?_⟩))) ⟨0, rfl, by omega, hG0, by omega⟩ ?_
  rintro j st ⟨e, rfl, he, heq, rfl⟩
  refine br (fun hL => ?_) (fun hL => ?_)
  · have hlt : e < types.length := by have := hL; simp [hN] at this; exact this
    obtain ⟨x, hx⟩ : ∃ x, types[e]? = some x := ⟨_, List.getElem?_eq_getElem hlt⟩
    have hp := htypes x (List.mem_of_getElem? hx)
    rw [eaL_drop hx] at heq
    obtain ⟨xw, ⟨xh, xp⟩⟩ := x
    refine ⟨_, ⟨by omega, dNms_get hx⟩, ?_⟩
    refine call_p hg hp (by repeat' (first | exact rfl | exact trivial | exact Or.inr (Or.inl ⟨_, rfl⟩) | exact Or.inr ⟨_, rfl⟩ | exact Or.inl ⟨rfl, rfl⟩ | exact Or.inl rfl | refine Or.inr ⟨_, _, rfl, Nat.zero_le _, rfl, ?_⟩ | refine ⟨_, _, rfl, ?_, ?_⟩ | refine ⟨_, rfl, ?_⟩ | refine Or.inr (Or.inr (Or.inr ⟨_, _, rfl, ?_⟩)) | exact Or.inl rfl | refine Or.inr ?_)) rfl ?_
    refine br (fun hf => ?_) (fun hf => ?_)
    · have hf : (F (.mk xh xp)).1 ≠ 0 := by simpa using hf
      rw [if_pos hf] at heq
      refine ⟨_, ?_, rfl⟩
      rw [heq]
      exact (by repeat' (first | exact rfl | exact trivial | exact Or.inr (Or.inl ⟨_, rfl⟩) | exact Or.inr ⟨_, rfl⟩ | exact Or.inl ⟨rfl, rfl⟩ | exact Or.inl rfl | refine Or.inr ⟨_, _, rfl, Nat.zero_le _, rfl, ?_⟩ | refine ⟨_, _, rfl, ?_, ?_⟩ | refine ⟨_, rfl, ?_⟩ | refine Or.inr (Or.inr (Or.inr ⟨_, _, rfl, ?_⟩)) | exact Or.inl rfl | refine Or.inr ?_))
    · have hf : (F (.mk xh xp)).1 = 0 := by simpa using hf
      rw [if_neg (by rw [hf]; simp)] at heq
      exact ⟨eachSt (.pt (bC ⟨levels, order, types, .mk rh rp⟩ lat (.pt pc 0) m) 0) (.fn g [.pt (bC ⟨levels, order, types, .mk rh rp⟩ lat (.pt pc 0) m) 0] []) types (e + 1), (weak_mk ⟨_, rfl⟩ (by repeat' (first | exact rfl | exact we_rfl rfl | refine ⟨_, _, rfl, ?_, ?_⟩)) rfl rfl rfl (by repeat' (first | exact trivial | exact we_rfl rfl | exact we_int (nxt hlt (by omega)) | refine ⟨⟨_, rfl, ?_⟩, ?_⟩))), types.length - (e + 1), by omega, e + 1, rfl, by omega, heq, rfl⟩
  · have hge : e = types.length := by have := hL; simp [hN] at this; omega
    subst hge
    rw [List.drop_length, eaL] at heq
    refine call_p hg hroot (by repeat' (first | exact rfl | exact trivial | exact Or.inr (Or.inl ⟨_, rfl⟩) | exact Or.inr ⟨_, rfl⟩ | exact Or.inl ⟨rfl, rfl⟩ | exact Or.inl rfl | refine Or.inr ⟨_, _, rfl, Nat.zero_le _, rfl, ?_⟩ | refine ⟨_, _, rfl, ?_, ?_⟩ | refine ⟨_, rfl, ?_⟩ | refine Or.inr (Or.inr (Or.inr ⟨_, _, rfl, ?_⟩)) | exact Or.inl rfl | refine Or.inr ?_)) rfl ?_
    refine ⟨_, ?_, rfl⟩
    rw [heq]
    exact (by repeat' (first | exact rfl | exact trivial | exact Or.inr (Or.inl ⟨_, rfl⟩) | exact Or.inr ⟨_, rfl⟩ | exact Or.inl ⟨rfl, rfl⟩ | exact Or.inl rfl | refine Or.inr ⟨_, _, rfl, Nat.zero_le _, rfl, ?_⟩ | refine ⟨_, _, rfl, ?_, ?_⟩ | refine ⟨_, rfl, ?_⟩ | refine Or.inr (Or.inr (Or.inr ⟨_, _, rfl, ?_⟩)) | exact Or.inl rfl | refine Or.inr ?_))

/-! ### right -/
/-- What is wrong with a type, and how many types are met. -/
def rightF (t : Ty) (m : Int) : Ft × Int := if (wrong t 1 0).1.1 ≠ 0 then ((wrong t 1 0).1, m) else if 512 < m + t.cnt then ((8, t.h.at'), m + t.cnt) else ((0, 0), m + t.cnt)
def RightΦ (s : Sch) (lat : DV) (pc : List DV) (x : Ft × Int) (r : DV) (os : List (List DV)) (_ : List TkE) : Prop := r = x.1.d ∧ os = [bC s lat (.loc 1 0) x.2, pc]

theorem bright_spec (s : Sch) (lc pc : List DV) (m : Int) (hm0 : 0 ≤ m) (hm1 : m ≤ 1099511627776) (t : Ty) (hbig : t.wt ≤ 1099511627776) (hpc : ∀ bx N n0 m0, CcL bx N n0 m0 pc pc) :
    Ev Tryz.prog 91 [.loc 0 0, .agg (dTy t)] [bC s (.pt lc 0) (.loc 1 0) m, pc] [] (RightΦ s (.pt lc 0) pc (rightF t m)) := by
  have hk := kright_spec t hbig
  have hc := count_spec t.wt t (Nat.le_refl _) hbig
  have hcw := t.cnt_wt
  have hF := rightF.eq_1 t m
  obtain ⟨levels, order, types, ⟨rh, rp⟩⟩ := s
  obtain ⟨h, ps⟩ := t
  generalize rightF (.mk h ps) m = R at hF ⊢
  refine ev_go (P := Tryz.prog) tt tt_ok 5000 30 [.cell 4 33] Tryz.func91 rfl Tryz.ntmps91 rfl (Nat.le_of_ble_eq_true rfl) (fun E9 w9 hn9 hm9 => ?_)
  refine call_p (enters_of Tryz.func71 (by decide +kernel) rfl) (hk) (by repeat' (first | exact rfl | exact trivial | exact Or.inr (Or.inl ⟨_, rfl⟩) | exact Or.inr ⟨_, rfl⟩ | exact Or.inl ⟨rfl, rfl⟩ | exact Or.inl rfl | refine Or.inr ⟨_, _, rfl, Nat.zero_le _, rfl, ?_⟩ | refine ⟨_, _, rfl, ?_, ?_⟩ | refine ⟨_, rfl, ?_⟩ | refine Or.inr (Or.inr (Or.inr ⟨_, _, rfl, ?_⟩)) | exact Or.inl rfl | refine Or.inr ?_)) rfl ?_
  refine br (fun hf => ?_) (fun hf => ?_)
  · have hf : (wrong (.mk h ps) 1 0).1.1 ≠ 0 := by simpa using hf
    rw [if_pos hf] at hF
    subst hF
    exact ⟨Ft.d _, [bC ⟨levels, order, types, .mk rh rp⟩ (.pt lc 0) (.loc 1 0) m, pc], (by repeat' (first | exact rfl | exact trivial | exact Or.inr (Or.inl ⟨_, rfl⟩) | exact Or.inr ⟨_, rfl⟩ | exact Or.inl ⟨rfl, rfl⟩ | exact Or.inl rfl | refine Or.inr ⟨_, _, rfl, Nat.zero_le _, rfl, ?_⟩ | refine ⟨_, _, rfl, ?_, ?_⟩ | refine ⟨_, rfl, ?_⟩ | refine Or.inr (Or.inr (Or.inr ⟨_, _, rfl, ?_⟩)) | exact Or.inl rfl | refine Or.inr ?_)), (by repeat' (first | exact rfl | exact trivial | exact Or.inr (Or.inl ⟨_, rfl⟩) | exact Or.inr ⟨_, rfl⟩ | exact Or.inl ⟨rfl, rfl⟩ | exact Or.inl rfl | refine Or.inr ⟨_, _, rfl, Nat.zero_le _, rfl, ?_⟩ | refine ⟨_, _, rfl, ?_, ?_⟩ | refine ⟨_, rfl, ?_⟩ | exact hpc _ _ _ _ | exact ⟨Nat.le_of_ble_eq_true rfl, rfl⟩ | exact congrArg (fun z => DV.v (.int .i64 z)) hw | refine Or.inr (Or.inr (Or.inr ⟨_, _, rfl, ?_⟩)) | exact Or.inl rfl | refine Or.inr ?_)), rfl, rfl⟩
  have hf : (wrong (.mk h ps) 1 0).1.1 = 0 := by simpa using hf
  rw [if_neg (by rw [hf]; simp)] at hF
  have hw : IntKind.i64.wrap (m + ((Ty.mk h ps).cnt : Int)) = m + ((Ty.mk h ps).cnt : Int) := wrap64 (by omega) (by omega)
  refine drawG_s mo (by decide +kernel) ?_
  refine callD_p (enters_of Tryz.func148 (by decide +kernel) rfl) (hc) (by repeat' (first | exact rfl | exact trivial | exact Or.inr (Or.inl ⟨_, rfl⟩) | exact Or.inr ⟨_, rfl⟩ | exact Or.inl ⟨rfl, rfl⟩ | exact Or.inl rfl | refine Or.inr ⟨_, _, rfl, Nat.zero_le _, rfl, ?_⟩ | refine ⟨_, _, rfl, ?_, ?_⟩ | refine ⟨_, rfl, ?_⟩ | refine Or.inr (Or.inr (Or.inr ⟨_, _, rfl, ?_⟩)) | exact Or.inl rfl | refine Or.inr ?_)) rfl ?_
  refine br (fun hg => ?_) (fun hg => ?_)
  · have hg : 512 < m + ((Ty.mk h ps).cnt : Int) := by simpa [hw] using hg
    rw [if_pos hg] at hF
    subst hF
    exact ⟨Ft.d _, [bC ⟨levels, order, types, .mk rh rp⟩ (.pt lc 0) (.loc 1 0) (m + (Ty.mk h ps).cnt), pc], (by repeat' (first | exact rfl | exact trivial | exact Or.inr (Or.inl ⟨_, rfl⟩) | exact Or.inr ⟨_, rfl⟩ | exact Or.inl ⟨rfl, rfl⟩ | exact Or.inl rfl | refine Or.inr ⟨_, _, rfl, Nat.zero_le _, rfl, ?_⟩ | refine ⟨_, _, rfl, ?_, ?_⟩ | refine ⟨_, rfl, ?_⟩ | refine Or.inr (Or.inr (Or.inr ⟨_, _, rfl, ?_⟩)) | exact Or.inl rfl | refine Or.inr ?_)), (by repeat' (first | exact rfl | exact trivial | exact Or.inr (Or.inl ⟨_, rfl⟩) | exact Or.inr ⟨_, rfl⟩ | exact Or.inl ⟨rfl, rfl⟩ | exact Or.inl rfl | refine Or.inr ⟨_, _, rfl, Nat.zero_le _, rfl, ?_⟩ | refine ⟨_, _, rfl, ?_, ?_⟩ | refine ⟨_, rfl, ?_⟩ | exact hpc _ _ _ _ | exact ⟨Nat.le_of_ble_eq_true rfl, rfl⟩ | exact congrArg (fun z => DV.v (.int .i64 z)) hw | refine Or.inr (Or.inr (Or.inr ⟨_, _, rfl, ?_⟩)) | exact Or.inl rfl | refine Or.inr ?_)), rfl, rfl⟩
  · have hg : ¬ 512 < m + ((Ty.mk h ps).cnt : Int) := by simpa [hw] using hg
    rw [if_neg hg] at hF
    subst hF
    exact ⟨Ft.d _, [bC ⟨levels, order, types, .mk rh rp⟩ (.pt lc 0) (.loc 1 0) (m + (Ty.mk h ps).cnt), pc], (by repeat' (first | exact rfl | exact trivial | exact Or.inr (Or.inl ⟨_, rfl⟩) | exact Or.inr ⟨_, rfl⟩ | exact Or.inl ⟨rfl, rfl⟩ | exact Or.inl rfl | refine Or.inr ⟨_, _, rfl, Nat.zero_le _, rfl, ?_⟩ | refine ⟨_, _, rfl, ?_, ?_⟩ | refine ⟨_, rfl, ?_⟩ | refine Or.inr (Or.inr (Or.inr ⟨_, _, rfl, ?_⟩)) | exact Or.inl rfl | refine Or.inr ?_)), (by repeat' (first | exact rfl | exact trivial | exact Or.inr (Or.inl ⟨_, rfl⟩) | exact Or.inr ⟨_, rfl⟩ | exact Or.inl ⟨rfl, rfl⟩ | exact Or.inl rfl | refine Or.inr ⟨_, _, rfl, Nat.zero_le _, rfl, ?_⟩ | refine ⟨_, _, rfl, ?_, ?_⟩ | refine ⟨_, rfl, ?_⟩ | exact hpc _ _ _ _ | exact ⟨Nat.le_of_ble_eq_true rfl, rfl⟩ | exact congrArg (fun z => DV.v (.int .i64 z)) hw | refine Or.inr (Or.inr (Or.inr ⟨_, _, rfl, ?_⟩)) | exact Or.inl rfl | refine Or.inr ?_)), rfl, rfl⟩
end Go.Proofs.YtmphiikdhifhjaaGreat
set_option maxRecDepth 100000
namespace Go.Proofs.YtmphiikdhifhjaaGreat
open Go Go.RowKit Dv Tryz

def eaR (z : Ty) : List (Wd × Ty) → Int → Ft × Int
  | [], m => rightF z m
  | x :: r, m => if (rightF x.2 m).1.1 ≠ 0 then rightF x.2 m else eaR z r (rightF x.2 m).2
theorem eaR_drop {z : Ty} {l : List (Wd × Ty)} {e : Nat} {m : Int} {x : Wd × Ty} (h : l[e]? = some x) : eaR z (l.drop e) m = if (rightF x.2 m).1.1 ≠ 0 then rightF x.2 m else eaR z (l.drop (e + 1)) (rightF x.2 m).2 := by
  rw [drop_cons h, eaR]
theorem rightF_ok {t : Ty} {m : Int} (h : (rightF t m).1.1 = 0) : (rightF t m).2 = m + t.cnt ∧ (rightF t m).2 ≤ 512 ∧ (wrong t 1 0).1.1 = 0 ∧ (rightF t m).1 = (0, 0) := by
  unfold rightF at h ⊢
  split
  · rename_i h1
    rw [if_pos h1] at h
    exact (h1 h).elim
  · rename_i h1
    rw [if_neg h1] at h
    split
    · rename_i h2
      rw [if_pos h2] at h
      cases h
    · rename_i h2
      refine ⟨rfl, by simpa using h2, by simpa using h1, rfl⟩

/-- The plan's cells while its nodes are not yet made. -/
abbrev pC0 (s : Sch) (ord : List Nat) (lc : List DV) : List DV := pC s ord (.pt lc 0) (.v (.slice none 0 0)) (.v (.int .i64 0)) (.v (.slice none 0 0))

abbrev eachRSt (s : Sch) (lc pc : List DV) (m : Int) (types : List (Wd × Ty)) (e : Nat) : St :=
  ⟨[(0, ⟨[], .loc 0 0⟩), (1, ⟨[], .fn 91 [.loc 0 0] []⟩), (4, ⟨[], .loc 2 0⟩), (12, ⟨[], .sl 11 (dNms types) none⟩), (13, ⟨[], .v (.int .i64 (dNms types).length)⟩), (14, ⟨[], .v (.int .i64 e)⟩)],
   [bC s (.pt lc 0) (.loc 1 0) m, pc, [.v (.int .i64 0), .v (.int .i64 0)]], []⟩

theorem eachR_spec (s : Sch) (lc : List DV) (ord : List Nat) (m : Int) (hm0 : 0 ≤ m) (hm1 : m ≤ 512) (hl : s.types.length ≤ 1099511627776) (hbig : ∀ t, (t = s.root ∨ ∃ x ∈ s.types, t = x.2) → t.wt ≤ 1099511627776) :
    Ev Tryz.prog 90 [.loc 0 0, .fn 91 [.loc 0 0] []] [bC s (.pt lc 0) (.loc 1 0) m, pC0 s ord lc] [] (RightΦ s (.pt lc 0) (pC0 s ord lc) (eaR s.root s.types m)) := by
  have hN := dNms_len s.types
  have hR : ∀ (m' : Int), 0 ≤ m' → m' ≤ 512 → ∀ t, (t = s.root ∨ ∃ x ∈ s.types, t = x.2) → _ := fun m' h0 h1 t ht => bright_spec s lc (pC0 s ord lc) m' h0 (by omega) t (hbig t ht) (fun bx N n0 m0 => (by repeat' (first | exact rfl | exact trivial | exact Or.inr (Or.inl ⟨_, rfl⟩) | exact Or.inr ⟨_, rfl⟩ | exact Or.inl ⟨rfl, rfl⟩ | exact Or.inl rfl | refine Or.inr ⟨_, _, rfl, Nat.zero_le _, rfl, ?_⟩ | refine ⟨_, _, rfl, ?_, ?_⟩ | refine ⟨_, rfl, ?_⟩ | refine Or.inr (Or.inr (Or.inr ⟨_, _, rfl, ?_⟩)) | exact Or.inl rfl | refine Or.inr ?_)))
  obtain ⟨levels, order, types, ⟨rh, rp⟩⟩ := s
  simp only at hl hR hN hbig
  refine ev_go (P := Tryz.prog) tt tt_ok 5000 34 [.cell 4 33] Tryz.func90 rfl Tryz.ntmps90 rfl (Nat.le_of_ble_eq_true rfl) (fun E9 w9 hn9 hm9 => ?_)
  generalize hG : eaR (.mk rh rp) types m = G
  have hG0 : G = eaR (.mk rh rp) (types.drop 0) m := by rw [List.drop_zero, hG]
  refine loop_i (fun j st => ∃ (e : Nat) (m' : Int), st = eachRSt ⟨levels, order, types, .mk rh rp⟩ lc (pC0 ⟨levels, order, types, .mk rh rp⟩ ord lc) m' types e ∧ e ≤ types.length ∧ 0 ≤ m' ∧ m' ≤ 512 ∧ G = eaR (.mk rh rp) (types.drop e) m' ∧ j = types.length - e) types.length
    (eachRSt ⟨levels, order, types, .mk rh rp⟩ lc (pC0 ⟨levels, order, types, .mk rh rp⟩ ord lc) m types 0) (weak_b 3 rfl (by repeat' (first | exact rfl | exact we_rfl rfl | exact rfl | refine ⟨_, _, rfl, ?_, ?_⟩)) rfl rfl rfl (by repeat' (first | exact trivial | exact we_rfl rfl | exact rfl | refine ⟨⟨_, rfl, ?_⟩, ?_⟩))) ⟨0, m, rfl, by omega, hm0, hm1, hG0, by omega⟩ ?_
  rintro j st ⟨e, m', rfl, he, hm0', hm1', heq, rfl⟩
  refine br (fun hL => ?_) (fun hL => ?_)
  · have hlt : e < types.length := by have := hL; simp [hN] at this; exact this
    obtain ⟨x, hx⟩ : ∃ x, types[e]? = some x := ⟨_, List.getElem?_eq_getElem hlt⟩
    have hp := hR m' hm0' hm1' x.2 (.inr ⟨x, List.mem_of_getElem? hx, rfl⟩)
    rw [eaR_drop hx] at heq
    obtain ⟨xw, ⟨xh, xp⟩⟩ := x
    refine ⟨_, ⟨by omega, dNms_get hx⟩, ?_⟩
    refine call_os 2 0 (enters_of Tryz.func91 (by decide +kernel) rfl) rfl rfl rfl (by repeat' (first | exact rfl | exact trivial | exact Or.inr (Or.inl ⟨_, rfl⟩) | exact Or.inr ⟨_, rfl⟩ | exact Or.inl ⟨rfl, rfl⟩ | exact Or.inl rfl | refine Or.inr ⟨_, _, rfl, Nat.zero_le _, rfl, ?_⟩ | refine ⟨_, _, rfl, ?_, ?_⟩ | refine ⟨_, rfl, ?_⟩ | exact ⟨Nat.le_of_ble_eq_true rfl, rfl⟩ | refine Or.inr (Or.inr (Or.inr ⟨_, _, rfl, ?_⟩)) | exact Or.inl rfl | refine Or.inr ?_)) (by repeat' (first | exact rfl | exact trivial | exact Or.inr (Or.inl ⟨_, rfl⟩) | exact Or.inr ⟨_, rfl⟩ | exact Or.inl ⟨rfl, rfl⟩ | exact Or.inl rfl | refine Or.inr ⟨_, _, rfl, Nat.zero_le _, rfl, ?_⟩ | refine ⟨_, _, rfl, ?_, ?_⟩ | refine ⟨_, rfl, ?_⟩ | exact ⟨Nat.le_of_ble_eq_true rfl, rfl⟩ | refine Or.inr (Or.inr (Or.inr ⟨_, _, rfl, ?_⟩)) | exact Or.inl rfl | refine Or.inr ?_)) hp (fun r os' tk' hΦ h1 h2 => ?_)
    obtain ⟨rfl, rfl⟩ := hΦ
    have h2 := List.eq_nil_of_length_eq_zero h2
    subst h2
    refine br (fun hf => ?_) (fun hf => ?_)
    · have hf : (rightF (.mk xh xp) m').1.1 ≠ 0 := by simpa using hf
      rw [if_pos hf] at heq
      subst heq
      exact ⟨Ft.d _, [bC ⟨levels, order, types, .mk rh rp⟩ (.pt lc 0) (.loc 1 0) (rightF (.mk xh xp) m').2, pC0 ⟨levels, order, types, .mk rh rp⟩ ord lc], (by repeat' (first | exact rfl | exact trivial | exact Or.inr (Or.inl ⟨_, rfl⟩) | exact Or.inr ⟨_, rfl⟩ | exact Or.inl ⟨rfl, rfl⟩ | exact Or.inl rfl | refine Or.inr ⟨_, _, rfl, Nat.zero_le _, rfl, ?_⟩ | refine ⟨_, _, rfl, ?_, ?_⟩ | refine ⟨_, rfl, ?_⟩ | refine Or.inr (Or.inr (Or.inr ⟨_, _, rfl, ?_⟩)) | exact Or.inl rfl | refine Or.inr ?_)), (by repeat' (first | exact rfl | exact trivial | exact Or.inr (Or.inl ⟨_, rfl⟩) | exact Or.inr ⟨_, rfl⟩ | exact Or.inl ⟨rfl, rfl⟩ | exact Or.inl rfl | refine Or.inr ⟨_, _, rfl, Nat.zero_le _, rfl, ?_⟩ | refine ⟨_, _, rfl, ?_, ?_⟩ | refine ⟨_, rfl, ?_⟩ | exact ⟨Nat.le_of_ble_eq_true rfl, rfl⟩ | refine Or.inr (Or.inr (Or.inr ⟨_, _, rfl, ?_⟩)) | exact Or.inl rfl | refine Or.inr ?_)), rfl, rfl⟩
    · have hf : (rightF (.mk xh xp) m').1.1 = 0 := by simpa using hf
      rw [if_neg (by rw [hf]; simp)] at heq
      obtain ⟨g1, g2, _, _⟩ := rightF_ok hf
      exact ⟨eachRSt ⟨levels, order, types, .mk rh rp⟩ lc (pC0 ⟨levels, order, types, .mk rh rp⟩ ord lc) (rightF (.mk xh xp) m').2 types (e + 1), (weak_b 3 rfl (by repeat' (first | exact rfl | exact we_rfl rfl | exact we_int (nxt hlt (by omega)) | refine ⟨_, _, rfl, ?_, ?_⟩)) rfl rfl rfl (by repeat' (first | exact trivial | exact we_rfl rfl | exact we_int (nxt hlt (by omega)) | refine ⟨⟨_, rfl, ?_⟩, ?_⟩))), types.length - (e + 1), by omega, e + 1, _, rfl, by omega, by omega, g2, heq, rfl⟩
  · have hge : e = types.length := by have := hL; simp [hN] at this; omega
    subst hge
    rw [List.drop_length, eaR] at heq
    refine call_os 2 0 (enters_of Tryz.func91 (by decide +kernel) rfl) rfl rfl rfl (by repeat' (first | exact rfl | exact trivial | exact Or.inr (Or.inl ⟨_, rfl⟩) | exact Or.inr ⟨_, rfl⟩ | exact Or.inl ⟨rfl, rfl⟩ | exact Or.inl rfl | refine Or.inr ⟨_, _, rfl, Nat.zero_le _, rfl, ?_⟩ | refine ⟨_, _, rfl, ?_, ?_⟩ | refine ⟨_, rfl, ?_⟩ | exact ⟨Nat.le_of_ble_eq_true rfl, rfl⟩ | refine Or.inr (Or.inr (Or.inr ⟨_, _, rfl, ?_⟩)) | exact Or.inl rfl | refine Or.inr ?_)) (by repeat' (first | exact rfl | exact trivial | exact Or.inr (Or.inl ⟨_, rfl⟩) | exact Or.inr ⟨_, rfl⟩ | exact Or.inl ⟨rfl, rfl⟩ | exact Or.inl rfl | refine Or.inr ⟨_, _, rfl, Nat.zero_le _, rfl, ?_⟩ | refine ⟨_, _, rfl, ?_, ?_⟩ | refine ⟨_, rfl, ?_⟩ | exact ⟨Nat.le_of_ble_eq_true rfl, rfl⟩ | refine Or.inr (Or.inr (Or.inr ⟨_, _, rfl, ?_⟩)) | exact Or.inl rfl | refine Or.inr ?_)) (hR m' hm0' hm1' (.mk rh rp) (.inl rfl)) (fun r os' tk' hΦ h1 h2 => ?_)
    obtain ⟨rfl, rfl⟩ := hΦ
    have h2 := List.eq_nil_of_length_eq_zero h2
    subst h2
    subst heq
    exact ⟨Ft.d _, [bC ⟨levels, order, types, .mk rh rp⟩ (.pt lc 0) (.loc 1 0) (rightF (.mk rh rp) m').2, pC0 ⟨levels, order, types, .mk rh rp⟩ ord lc], (by repeat' (first | exact rfl | exact trivial | exact Or.inr (Or.inl ⟨_, rfl⟩) | exact Or.inr ⟨_, rfl⟩ | exact Or.inl ⟨rfl, rfl⟩ | exact Or.inl rfl | refine Or.inr ⟨_, _, rfl, Nat.zero_le _, rfl, ?_⟩ | refine ⟨_, _, rfl, ?_, ?_⟩ | refine ⟨_, rfl, ?_⟩ | refine Or.inr (Or.inr (Or.inr ⟨_, _, rfl, ?_⟩)) | exact Or.inl rfl | refine Or.inr ?_)), (by repeat' (first | exact rfl | exact trivial | exact Or.inr (Or.inl ⟨_, rfl⟩) | exact Or.inr ⟨_, rfl⟩ | exact Or.inl ⟨rfl, rfl⟩ | exact Or.inl rfl | refine Or.inr ⟨_, _, rfl, Nat.zero_le _, rfl, ?_⟩ | refine ⟨_, _, rfl, ?_, ?_⟩ | refine ⟨_, rfl, ?_⟩ | exact ⟨Nat.le_of_ble_eq_true rfl, rfl⟩ | refine Or.inr (Or.inr (Or.inr ⟨_, _, rfl, ?_⟩)) | exact Or.inl rfl | refine Or.inr ?_)), rfl, rfl⟩

/-! ### called -/
/-- What is wrong with the types' names. -/
def namedF (s : Sch) : Ft := if 64 < s.types.length then (8, atN (tNm s) 64) else enumL (tNm s) 0 (tNm s)
def CalledΦ (s : Sch) (lc : List DV) (r : DV) (os : List (List DV)) (_ : List TkE) : Prop :=
  r = (namedF s).d ∧ ((namedF s).1 = 0 → ∃ ord, TblOK (tL s) ord ∧ ord.length ≤ s.types.length ∧ os = [bC s (.pt lc 0) (.loc 1 0) 0, pC0 s ord lc])
abbrev bcalSt (s : Sch) (lc : List DV) (n e : Nat) : St :=
  ⟨[(0, ⟨[], .loc 0 0⟩), (2, ⟨[], .loc 2 0⟩), (3, ⟨[], .sl 1 (dBs (nmTx ((tNm s).take e))) (some 0)⟩), (27, ⟨[], .sl 11 (dNms s.types) none⟩), (28, ⟨[], .v (.int .i64 (dNms s.types).length)⟩), (29, ⟨[], .v (.int .i64 e)⟩)],
   [bC s (.pt lc 0) (.loc 1 0) 0, [.pt lc 0, .v (.slice none 0 0), .v (.int .i64 0), .v (.pointer none), .v (.slice none 0 0)], [.v (.int .i64 0), .v (.int .i64 0)]], [⟨n, 9, 1, none⟩]⟩

theorem bcalled_spec (s : Sch) (lc : List DV) (hs : nmsWt s.types ≤ 1099511627776) :
    Ev Tryz.prog 89 [.loc 0 0] [bC s (.pt lc 0) (.loc 1 0) 0, [.pt lc 0, .v (.slice none 0 0), .v (.int .i64 0), .v (.pointer none), .v (.slice none 0 0)]] [] (CalledΦ s lc) := by
  have hN := dNms_len s.types
  have hnl := nmsWt_len s.types
  have htl := tNm_len s
  have hF := namedF.eq_1 s
  have hget : ∀ {e : Nat} {x : Wd × Ty}, s.types[e]? = some x → (tNm s)[e]? = some x.1 := fun h => by simp [tNm, h]
  have hnew := new_spec (tL s) (by rw [tL_len]; omega)
  have hTL : tL s = nmTx (tNm s) := rfl
  have hw : ∀ x ∈ s.types, x.1.s.size ≤ 1099511627776 := fun x hx => by
    have := nmsWt_mem hx
    simp only [Wd.wt] at this
    omega
  obtain ⟨levels, order, types, ⟨rh, rp⟩⟩ := s
  simp only at hs hN hnl htl hget hw hF
  generalize hQ : tNm ⟨levels, order, types, .mk rh rp⟩ = Q at htl hF hget hTL
  refine ev_go (P := Tryz.prog) tt tt_ok 5000 67 [.cell 2 33] Tryz.func89 rfl Tryz.ntmps89 rfl (Nat.le_of_ble_eq_true rfl) (fun E9 w9 hn9 hm9 => ?_)
  refine br (fun h => ?_) (fun h => ?_)
  · have h : 64 < types.length := by simp [hN] at h; omega
    obtain ⟨x, hx⟩ : ∃ x, types[64]? = some x := ⟨_, List.getElem?_eq_getElem h⟩
    have hxn := hget hx
    rw [if_pos h, atN_get hxn] at hF
    obtain ⟨xw, ⟨xh, xp⟩⟩ := x
    refine ⟨_, ⟨by omega, dNms_get hx⟩, ?_⟩
    refine ⟨Ft.d (8, xw.a), [bC ⟨levels, order, types, .mk rh rp⟩ (.pt lc 0) (.loc 1 0) 0, [.pt lc 0, .v (.slice none 0 0), .v (.int .i64 0), .v (.pointer none), .v (.slice none 0 0)]], (by repeat' (first | exact rfl | exact trivial | exact Or.inr (Or.inl ⟨_, rfl⟩) | exact Or.inr ⟨_, rfl⟩ | exact Or.inl ⟨rfl, rfl⟩ | exact Or.inl rfl | refine Or.inr ⟨_, _, rfl, Nat.zero_le _, rfl, ?_⟩ | refine ⟨_, _, rfl, ?_, ?_⟩ | refine ⟨_, rfl, ?_⟩ | refine Or.inr (Or.inr (Or.inr ⟨_, _, rfl, ?_⟩)) | exact Or.inl rfl | refine Or.inr ?_)), (by repeat' (first | exact rfl | exact trivial | exact Or.inr (Or.inl ⟨_, rfl⟩) | exact Or.inr ⟨_, rfl⟩ | exact Or.inl ⟨rfl, rfl⟩ | exact Or.inl rfl | refine Or.inr ⟨_, _, rfl, Nat.zero_le _, rfl, ?_⟩ | refine ⟨_, _, rfl, ?_, ?_⟩ | refine ⟨_, rfl, ?_⟩ | exact ⟨Nat.le_of_ble_eq_true rfl, rfl⟩ | refine Or.inr (Or.inr (Or.inr ⟨_, _, rfl, ?_⟩)) | exact Or.inl rfl | refine Or.inr ?_)), by rw [hF], fun h0 => by rw [hF] at h0; simp at h0⟩
  have h : ¬ 64 < types.length := by simp [hN] at h; omega
  rw [if_neg h] at hF
  refine loop_i (fun j st => ∃ e : Nat, st = bcalSt ⟨levels, order, types, .mk rh rp⟩ lc e e ∧ e ≤ types.length ∧ (nmTx (Q.take e)).Nodup ∧ enumL Q 0 Q = enumL Q e (Q.drop e) ∧ j = types.length - e) types.length (bcalSt ⟨levels, order, types, .mk rh rp⟩ lc 0 0) (weak_bt 3 ⟨0, 9, 1, none⟩ rfl rfl rfl (by repeat' (first | exact rfl | exact we_rfl rfl | exact we_tok (Nat.le_refl _) rfl | exact we_tok (Nat.le_refl _) rfl | refine ⟨_, _, rfl, ?_, ?_⟩)) rfl rfl (by repeat' (first | exact trivial | exact we_rfl rfl | exact we_tok (Nat.le_refl _) rfl | refine ⟨⟨_, rfl, ?_⟩, ?_⟩))) ⟨0, rfl, by omega, by simp [nmTx], rfl, by omega⟩ ?_
  rintro j st ⟨e, rfl, he, hnd, heq, rfl⟩
  rw [heq] at hF
  refine br (fun hL => ?_) (fun hL => ?_)
  · have hlt : e < types.length := by have := hL; simp [hN] at this; exact this
    obtain ⟨x, hx⟩ : ∃ x, types[e]? = some x := ⟨_, List.getElem?_eq_getElem hlt⟩
    have hws := hw x (List.mem_of_getElem? hx)
    have hq := hget hx
    have hsn := nmTx_snoc hq
    have hst := enumL_drop hq
    have hns := nodup_succ hq hnd
    have htw := twice_spec (nmTx (Q.take (e + 1))) (by simp [nmTx]; omega)
    rw [← hsn] at htw
    obtain ⟨xw, ⟨xh, xp⟩⟩ := x
    simp only at hws hq hsn hst hns htw
    refine ⟨_, ⟨by omega, dNms_get hx⟩, ?_⟩
    rw [hQ]
    refine ⟨by simp [dBs_len, nmTx]; omega, ⟨by simp [dBs_len, nmTx, maxLen]; omega, by simp [dBs_len, nmTx]; omega⟩, ?_⟩
    refine call_p (enters_of Tryz.func75 (by decide +kernel) rfl) (right_spec xw.s (by omega)) (by repeat' (first | exact rfl | exact trivial | exact Or.inr (Or.inl ⟨_, rfl⟩) | exact Or.inr ⟨_, rfl⟩ | exact Or.inl ⟨rfl, rfl⟩ | exact Or.inl rfl | refine Or.inr ⟨_, _, rfl, Nat.zero_le _, rfl, ?_⟩ | refine ⟨_, _, rfl, ?_, ?_⟩ | refine ⟨_, rfl, ?_⟩ | refine Or.inr (Or.inr (Or.inr ⟨_, _, rfl, ?_⟩)) | exact Or.inl rfl | refine Or.inr ?_)) rfl ?_
    refine br (fun hNm => ?_) (fun hNm => ?_)
    · have hNm : nameOK xw.s = false := by simpa using hNm
      have hf : listedF Q e xw = 9 := by simp [listedF, hNm]
      rw [hst, hf, if_pos (by decide)] at hF
      refine ⟨Ft.d (9, xw.a), [bC ⟨levels, order, types, .mk rh rp⟩ (.pt lc 0) (.loc 1 0) 0, [.pt lc 0, .v (.slice none 0 0), .v (.int .i64 0), .v (.pointer none), .v (.slice none 0 0)]], (by repeat' (first | exact rfl | exact trivial | exact Or.inr (Or.inl ⟨_, rfl⟩) | exact Or.inr ⟨_, rfl⟩ | exact Or.inl ⟨rfl, rfl⟩ | exact Or.inl rfl | refine Or.inr ⟨_, _, rfl, Nat.zero_le _, rfl, ?_⟩ | refine ⟨_, _, rfl, ?_, ?_⟩ | refine ⟨_, rfl, ?_⟩ | refine Or.inr (Or.inr (Or.inr ⟨_, _, rfl, ?_⟩)) | exact Or.inl rfl | refine Or.inr ?_)), (by repeat' (first | exact rfl | exact trivial | exact Or.inr (Or.inl ⟨_, rfl⟩) | exact Or.inr ⟨_, rfl⟩ | exact Or.inl ⟨rfl, rfl⟩ | exact Or.inl rfl | refine Or.inr ⟨_, _, rfl, Nat.zero_le _, rfl, ?_⟩ | refine ⟨_, _, rfl, ?_, ?_⟩ | refine ⟨_, rfl, ?_⟩ | exact ⟨Nat.le_of_ble_eq_true rfl, rfl⟩ | refine Or.inr (Or.inr (Or.inr ⟨_, _, rfl, ?_⟩)) | exact Or.inl rfl | refine Or.inr ?_)), by rw [hF], fun h0 => by rw [hF] at h0; simp at h0⟩
    · have hNm : nameOK xw.s = true := by simpa using hNm
      refine call_e (enters_of Tryz.func147 (by decide +kernel) rfl) rfl htw (by repeat' (first | exact rfl | exact trivial | exact Or.inr (Or.inl ⟨_, rfl⟩) | exact Or.inr ⟨_, rfl⟩ | exact Or.inl ⟨rfl, rfl⟩ | exact Or.inl rfl | refine Or.inr ⟨_, _, rfl, Nat.zero_le _, rfl, ?_⟩ | refine ⟨_, _, rfl, ?_, ?_⟩ | refine ⟨_, rfl, ?_⟩ | refine Or.inr (Or.inr (Or.inr ⟨_, _, rfl, ?_⟩)) | exact Or.inl rfl | refine Or.inr ?_)) (fun r hr => ?_)
      obtain ⟨z, rfl, hz⟩ := hr
      refine br (fun h2 => ?_) (fun h2 => ?_)
      · have h2 : 0 ≤ z := by simpa using h2
        have hd : dupBefore (Q.take e) xw.s = true := by
          cases hd : dupBefore (Q.take e) xw.s
          · exact absurd (hns.2 hd) (hz.1 h2)
          · rfl
        have hf : listedF Q e xw = 10 := by simp [listedF, hNm, hd]
        rw [hst, hf, if_pos (by decide)] at hF
        refine ⟨Ft.d (10, xw.a), [bC ⟨levels, order, types, .mk rh rp⟩ (.pt lc 0) (.loc 1 0) 0, [.pt lc 0, .v (.slice none 0 0), .v (.int .i64 0), .v (.pointer none), .v (.slice none 0 0)]], (by repeat' (first | exact rfl | exact trivial | exact Or.inr (Or.inl ⟨_, rfl⟩) | exact Or.inr ⟨_, rfl⟩ | exact Or.inl ⟨rfl, rfl⟩ | exact Or.inl rfl | refine Or.inr ⟨_, _, rfl, Nat.zero_le _, rfl, ?_⟩ | refine ⟨_, _, rfl, ?_, ?_⟩ | refine ⟨_, rfl, ?_⟩ | refine Or.inr (Or.inr (Or.inr ⟨_, _, rfl, ?_⟩)) | exact Or.inl rfl | refine Or.inr ?_)), (by repeat' (first | exact rfl | exact trivial | exact Or.inr (Or.inl ⟨_, rfl⟩) | exact Or.inr ⟨_, rfl⟩ | exact Or.inl ⟨rfl, rfl⟩ | exact Or.inl rfl | refine Or.inr ⟨_, _, rfl, Nat.zero_le _, rfl, ?_⟩ | refine ⟨_, _, rfl, ?_, ?_⟩ | refine ⟨_, rfl, ?_⟩ | exact ⟨Nat.le_of_ble_eq_true rfl, rfl⟩ | refine Or.inr (Or.inr (Or.inr ⟨_, _, rfl, ?_⟩)) | exact Or.inl rfl | refine Or.inr ?_)), by rw [hF], fun h0 => by rw [hF] at h0; simp at h0⟩
      · have h2 : ¬ 0 ≤ z := by simpa using h2
        have hnd2 : (nmTx (Q.take (e + 1))).Nodup := Classical.byContradiction fun hn => h2 (hz.2 hn)
        have hf : listedF Q e xw = 0 := by simp [listedF, hNm, hns.1 hnd2]
        rw [hf, if_neg (by simp)] at hst
        have hsn2 : dBs (nmTx (Q.take e)) ++ [[DV.v (.string xw.s)]] = dBs (nmTx ((tNm ⟨levels, order, types, .mk rh rp⟩).take (e + 1))) := by rw [hQ]; exact hsn
        refine ⟨bcalSt ⟨levels, order, types, .mk rh rp⟩ lc (e + 1) (e + 1), (weak_b 3 rfl (by repeat' (first | exact rfl | exact we_rfl rfl | exact we_int (nxt hlt (by omega)) | exact we_sl hsn2 rfl | refine ⟨_, _, rfl, ?_, ?_⟩)) rfl rfl rfl (by repeat' (first | exact trivial | exact we_rfl rfl | exact we_int (nxt hlt (by omega)) | exact we_sl hsn2 rfl | refine ⟨⟨_, rfl, ?_⟩, ?_⟩))), types.length - (e + 1), by omega, e + 1, rfl, by omega, hnd2, heq.trans hst, rfl⟩
  · have hge : e = types.length := by have := hL; simp [hN] at this; omega
    have h0 : enumL Q e (Q.drop e) = (0, 0) := by rw [hge, ← htl, List.drop_length]; rfl
    rw [h0] at hF
    have ht : Q.take e = Q := by rw [hge, ← htl, List.take_length]
    have hEq : nmTx ((tNm ⟨levels, order, types, .mk rh rp⟩).take e) = tL ⟨levels, order, types, .mk rh rp⟩ := by rw [hQ, ht, hTL]
    rw [← hEq] at hnew
    refine drawG_s mo (by decide +kernel) ?_
    refine callD_e (enters_of Tryz.func141 (by decide +kernel) rfl) rfl hnew (by repeat' (first | exact rfl | exact trivial | exact Or.inr (Or.inl ⟨_, rfl⟩) | exact Or.inr ⟨_, rfl⟩ | exact Or.inl ⟨rfl, rfl⟩ | exact Or.inl rfl | refine Or.inr ⟨_, _, rfl, Nat.zero_le _, rfl, ?_⟩ | refine ⟨_, _, rfl, ?_, ?_⟩ | refine ⟨_, rfl, ?_⟩ | refine Or.inr (Or.inr (Or.inr ⟨_, _, rfl, ?_⟩)) | exact Or.inl rfl | refine Or.inr ?_)) (fun res hr => ?_)
    obtain ⟨ord, hT, hol, rfl⟩ := hr
    rw [hEq] at hT hol
    have hpt : DV.pt (dTbl (nmTx ((tNm ⟨levels, order, types, .mk rh rp⟩).take e)) ord) 0 = DV.pt (dTbl (tL ⟨levels, order, types, .mk rh rp⟩) ord) 0 := congrArg (fun L => DV.pt (dTbl L ord) 0) hEq
    rw [tL_len] at hol
    exact ⟨Ft.d (0, 0), [bC ⟨levels, order, types, .mk rh rp⟩ (.pt lc 0) (.loc 1 0) 0, pC0 ⟨levels, order, types, .mk rh rp⟩ ord lc], (by repeat' (first | exact rfl | exact trivial | exact Or.inr (Or.inl ⟨_, rfl⟩) | exact Or.inr ⟨_, rfl⟩ | exact Or.inl ⟨rfl, rfl⟩ | exact Or.inl rfl | refine Or.inr ⟨_, _, rfl, Nat.zero_le _, rfl, ?_⟩ | refine ⟨_, _, rfl, ?_, ?_⟩ | refine ⟨_, rfl, ?_⟩ | refine Or.inr (Or.inr (Or.inr ⟨_, _, rfl, ?_⟩)) | exact Or.inl rfl | refine Or.inr ?_)), (by repeat' (first | exact rfl | exact trivial | exact Or.inr (Or.inl ⟨_, rfl⟩) | exact Or.inr ⟨_, rfl⟩ | exact Or.inl ⟨rfl, rfl⟩ | exact Or.inl rfl | refine Or.inr ⟨_, _, rfl, Nat.zero_le _, rfl, ?_⟩ | refine ⟨_, _, rfl, ?_, ?_⟩ | refine ⟨_, rfl, ?_⟩ | exact ⟨Nat.le_of_ble_eq_true rfl, rfl⟩ | exact Or.inl hpt | refine Or.inr (Or.inr (Or.inr ⟨_, _, rfl, ?_⟩)) | exact Or.inl rfl | refine Or.inr ?_)), by rw [hF], fun _ => ⟨ord, hT, hol, rfl⟩⟩
end Go.Proofs.YtmphiikdhifhjaaGreat
set_option maxRecDepth 100000
namespace Go.Proofs.YtmphiikdhifhjaaGreat
open Go Go.RowKit Dv Tryz

/-- Where the nodes of the k-th type begin. -/
def firstA (s : Sch) (k : Nat) : Nat := ((s.types.take k).map fun x => x.2.nn).sum
theorem firstA_succ {s : Sch} {k : Nat} {x : Wd × Ty} (h : s.types[k]? = some x) : firstA s (k + 1) = firstA s k + x.2.nn := by
  unfold firstA
  rw [List.take_add_one, h]
  simp
theorem firstA_le (s : Sch) : ∀ k, firstA s k ≤ nmsWt s.types := by
  intro k
  unfold firstA
  generalize s.types = l
  induction l generalizing k with
  | nil => simp
  | cons x r ih =>
    cases k with
    | zero => simp
    | succ k =>
      have h1 := ih k
      have h2 := x.2.nn_cnt
      have h3 := x.2.cnt_wt
      simp only [List.take_succ_cons, List.map_cons, List.sum_cons, nmsWt]
      omega
/-- The first node of what the i-th type comes to. -/
def namedN (s : Sch) (i : Nat) : Nat := firstA s ((endI s (s.types.length + 1) i).getD 0)
def namedL (s : Sch) : List Nat := (List.range s.types.length).map (namedN s)

theorem rep0 (n : Nat) : (List.replicate n (vL [Value.int .i64 0])).flatten = cZ (List.replicate n 0) := by
  induction n with
  | zero => rfl
  | succ n ih => simp only [List.replicate_succ, List.flatten_cons, ih]; rfl
theorem weL_cZ' {n m : Nat} {tk : List TkE} {l : List DV} {js : List Int} (h : l = cZ js) : WeL n m tk l (cZ js) := by rw [h]; exact weL_cZ js

abbrev plSt (s : Sch) (lc pc : List DV) (m : Int) (l : List Int) (at' e : Nat) : St :=
  ⟨[(0, ⟨[], .loc 0 0⟩), (2, ⟨[], .ms 2 1 0 (dNms s.types).length (dNms s.types).length⟩), (3, ⟨[], .v (.int .i64 at')⟩), (18, ⟨[], .sl 11 (dNms s.types) none⟩), (19, ⟨[], .v (.int .i64 (dNms s.types).length)⟩), (20, ⟨[], .v (.int .i64 e)⟩)],
   [bC s (.pt lc 0) (.loc 1 0) m, pc, cZ l], []⟩
abbrev pl2St (s : Sch) (ord : List Nat) (lc : List DV) (m : Int) (l : List Int) (n e : Nat) : St :=
  ⟨[(0, ⟨[], .loc 0 0⟩), (2, ⟨[], .ms 2 1 0 (dNms s.types).length (dNms s.types).length⟩), (40, ⟨[], .v (.int .i64 (dNms s.types).length)⟩), (41, ⟨[], .v (.int .i64 e)⟩)],
   [bC s (.pt lc 0) (.loc 1 0) m, pC s ord (.pt lc 0) (.v (.slice none 0 0)) (.v (.int .i64 0)) (.sl 1 (dInts ((namedL s).take e)) (some 0)), cZ l], [⟨n, 3, 1, none⟩]⟩

def PlacesΦ (s : Sch) (ord : List Nat) (lc : List DV) (m : Int) (_ : DV) (os : List (List DV)) (_ : List TkE) : Prop :=
  os = [bC s (.pt lc 0) (.loc 1 0) m, pC s ord (.pt lc 0) (.v (.slice none 0 0)) (.v (.int .i64 0)) (.sl 1 (dInts (namedL s)) none)]

theorem cZ_get {l : List Int} {i : Nat} {z : Int} (h : l[i]? = some z) : (cZ l)[i]? = some (DV.v (.int .i64 z)) := by simp [cZ, h]

theorem places_spec (s : Sch) (lc : List DV) (ord : List Nat) (m : Int) (hT : TblOK (tL s) ord) (hol : ord.length ≤ 1099511627776) (hl : s.types.length ≤ 64) (hr : ∀ x ∈ s.types, refB s x.2 = true) (hs : nmsWt s.types ≤ 1099511627776)
    (hlo : ∀ i, i < s.types.length → ∃ k, endI s (s.types.length + 1) i = some k) :
    Ev Tryz.prog 94 [.loc 0 0] [bC s (.pt lc 0) (.loc 1 0) m, pC0 s ord lc] [] (PlacesΦ s ord lc m) := by
  have hN := dNms_len s.types
  have hnw : ∀ x ∈ s.types, x.2.wt ≤ 1099511627776 := fun x hx => by
    have := nmsWt_mem hx
    omega
  have hfw := firstA_le s
  have hfs := fun {k : Nat} {x : Wd × Ty} => @firstA_succ s k x
  have hnl : (namedL s).length = s.types.length := by simp [namedL]
  have hend := fun (e0 : DV) => end_spec s (.pt lc 0) ord (.pt lc 0) (.v (.slice none 0 0)) (.v (.int .i64 0)) e0 m hT hol hl hr
  obtain ⟨levels, order, types, ⟨rh, rp⟩⟩ := s
  simp only at hl hr hN hs hnw hfw hfs hnl hend hlo
  have hN2 : (dNms (⟨levels, order, types, .mk rh rp⟩ : Sch).types).length = types.length := hN
  refine ev_go (P := Tryz.prog) tt tt_ok 5000 66 [] Tryz.func94 rfl Tryz.ntmps94 rfl (Nat.le_of_ble_eq_true rfl) (fun E9 w9 hn9 hm9 => ?_)
  refine ⟨⟨rfl, by omega, by omega, by omega⟩, ?_⟩
  refine loop_i (fun j st => ∃ (e : Nat) (l : List Int), st = plSt ⟨levels, order, types, .mk rh rp⟩ lc (pC0 ⟨levels, order, types, .mk rh rp⟩ ord lc) m l (firstA ⟨levels, order, types, .mk rh rp⟩ e) e ∧ e ≤ types.length ∧ l.length = types.length ∧ (∀ i : Nat, i < e → l[i]? = some (firstA ⟨levels, order, types, .mk rh rp⟩ i : Int)) ∧ j = types.length - e) types.length
    (plSt ⟨levels, order, types, .mk rh rp⟩ lc (pC0 ⟨levels, order, types, .mk rh rp⟩ ord lc) m (List.replicate ((dNms types).length : Int).toNat 0) (firstA ⟨levels, order, types, .mk rh rp⟩ 0) 0) (weak_b 3 rfl (by repeat' (first | exact rfl | exact we_rfl rfl | exact weL_cZ' (rep0 _) | refine ⟨_, _, rfl, ?_, ?_⟩)) rfl rfl rfl (by repeat' (first | exact trivial | exact we_rfl rfl | exact weL_cZ' (rep0 _) | refine ⟨⟨_, rfl, ?_⟩, ?_⟩))) ⟨0, _, rfl, by omega, by simp [hN], fun _ h => by omega, by omega⟩ ?_
  rintro j st ⟨e, l, rfl, he, hll, hlv, rfl⟩
  refine br (fun hL => ?_) (fun hL => ?_)
  · have hlt : e < types.length := by have := hL; simp [hN] at this; exact this
    obtain ⟨x, hx⟩ : ∃ x, types[e]? = some x := ⟨_, List.getElem?_eq_getElem hlt⟩
    have hxw := hnw x (List.mem_of_getElem? hx)
    have hfe := hfs hx
    have hf1 := hfw (e + 1)
    obtain ⟨xw, ⟨xh, xp⟩⟩ := x
    have hnd := nodes_spec (Ty.mk xh xp).wt (.mk xh xp) (Nat.le_refl _) hxw
    refine ⟨_, ⟨by omega, dNms_get hx⟩, ?_⟩
    refine ⟨⟨by omega, by omega⟩, ?_⟩
    refine ⟨by rw [cZ_len]; omega, ?_⟩
    refine call_p (enters_of Tryz.func151 (by decide +kernel) rfl) (hnd) (by repeat' (first | exact rfl | exact trivial | exact Or.inr (Or.inl ⟨_, rfl⟩) | exact Or.inr ⟨_, rfl⟩ | exact Or.inl ⟨rfl, rfl⟩ | exact Or.inl rfl | refine Or.inr ⟨_, _, rfl, Nat.zero_le _, rfl, ?_⟩ | refine ⟨_, _, rfl, ?_, ?_⟩ | refine ⟨_, rfl, ?_⟩ | refine Or.inr (Or.inr (Or.inr ⟨_, _, rfl, ?_⟩)) | exact Or.inl rfl | refine Or.inr ?_)) rfl ?_
    simp only at hfe hf1
    have hb1 : (cZ l).set (0 + (e : Int).toNat * 1) (DV.v (.int .i64 ((firstA ⟨levels, order, types, .mk rh rp⟩ e : Nat) : Int))) = cZ (l.set e ((firstA ⟨levels, order, types, .mk rh rp⟩ e : Nat) : Int)) := by
      rw [show 0 + (e : Int).toNat * 1 = e by omega, cZ_set]
    have hw4 : IntKind.i64.wrap (((firstA ⟨levels, order, types, .mk rh rp⟩ e : Nat) : Int) + (Ty.mk xh xp).nn) = ((firstA ⟨levels, order, types, .mk rh rp⟩ (e + 1) : Nat) : Int) := by
      rw [hfe, wrap64 (by omega) (by omega)]; omega
    refine ⟨plSt ⟨levels, order, types, .mk rh rp⟩ lc (pC0 ⟨levels, order, types, .mk rh rp⟩ ord lc) m (l.set e ((firstA ⟨levels, order, types, .mk rh rp⟩ e : Nat) : Int)) (firstA ⟨levels, order, types, .mk rh rp⟩ (e + 1)) (e + 1), (weak_b 3 rfl (by repeat' (first | exact rfl | exact we_rfl rfl | exact weL_cZ' hb1 | exact we_int hw4 | exact we_int (nxt hlt (by omega)) | refine ⟨_, _, rfl, ?_, ?_⟩)) rfl rfl rfl (by repeat' (first | exact trivial | exact we_rfl rfl | exact weL_cZ' hb1 | exact we_int hw4 | exact we_int (nxt hlt (by omega)) | refine ⟨⟨_, rfl, ?_⟩, ?_⟩))), types.length - (e + 1), by omega, e + 1, _, rfl, by omega, by rw [List.length_set]; exact hll, fun i hi => ?_, rfl⟩
    by_cases hie : i = e
    · subst hie
      rw [List.getElem?_set_self (by omega)]
    · rw [List.getElem?_set_ne (Ne.symm hie)]
      exact hlv i (by omega)
  · have hge : e = types.length := by have := hL; simp [hN] at this; omega
    subst hge
    refine loop_i (fun j st => ∃ e : Nat, st = pl2St ⟨levels, order, types, .mk rh rp⟩ ord lc m l e e ∧ e ≤ types.length ∧ j = types.length - e) types.length (pl2St ⟨levels, order, types, .mk rh rp⟩ ord lc m l 0 0) (weak_bt 3 ⟨0, 3, 1, none⟩ rfl rfl rfl (by repeat' (first | exact rfl | exact we_rfl rfl | exact weL_cZ _ | exact we_tok (Nat.le_refl _) rfl | exact we_tok (Nat.le_refl _) rfl | refine ⟨_, _, rfl, ?_, ?_⟩)) rfl rfl (by repeat' (first | exact trivial | exact we_rfl rfl | exact weL_cZ _ | exact we_tok (Nat.le_refl _) rfl | refine ⟨⟨_, rfl, ?_⟩, ?_⟩))) ⟨0, rfl, by omega, by omega⟩ ?_
    rintro j st ⟨e, rfl, he, rfl⟩
    refine br (fun hL => ?_) (fun hL => ?_)
    · have hlt : e < types.length := by have := hL; simp [hN] at this; exact this
      obtain ⟨k, hk⟩ := hlo e hlt
      have hkl := (endI_lt hk).1
      simp only at hkl
      have hE := hend (.sl 1 (dInts ((namedL ⟨levels, order, types, .mk rh rp⟩).take e)) none) e hlt
      rw [hk] at hE
      have hnn : namedN ⟨levels, order, types, .mk rh rp⟩ e = firstA ⟨levels, order, types, .mk rh rp⟩ k := by unfold namedN; rw [hk]; rfl
      have hget : (namedL ⟨levels, order, types, .mk rh rp⟩)[e]? = some (firstA ⟨levels, order, types, .mk rh rp⟩ k) := by
        unfold namedL
        rw [List.getElem?_map, List.getElem?_range hlt, Option.map_some, hnn]
      have hsn : dInts ((namedL ⟨levels, order, types, .mk rh rp⟩).take e) ++ [[DV.v (.int .i64 ((firstA ⟨levels, order, types, .mk rh rp⟩ k : Nat) : Int))]] = dInts ((namedL ⟨levels, order, types, .mk rh rp⟩).take (e + 1)) := by
        rw [List.take_add_one, hget]
        simp [dInts]
      refine drawG_s mo (by decide +kernel) ?_
      refine callD_b (enters_of Tryz.func150 (by decide +kernel) rfl) hE (by repeat' (first | exact rfl | exact trivial | exact Or.inr (Or.inl ⟨_, rfl⟩) | exact Or.inr ⟨_, rfl⟩ | exact Or.inl ⟨rfl, rfl⟩ | exact Or.inl rfl | refine Or.inr ⟨_, _, rfl, Nat.zero_le _, rfl, ?_⟩ | refine ⟨_, _, rfl, ?_, ?_⟩ | refine ⟨_, rfl, ?_⟩ | refine Or.inr (Or.inr (Or.inr ⟨_, _, rfl, ?_⟩)) | exact Or.inl rfl | refine Or.inr ?_)) rfl rfl ?_
      refine ⟨⟨by simp only [oz]; omega, by simp only [oz]; omega⟩, ?_⟩
      have hld : (cZ l)[0 + (oz (some k)).toNat * 1]? = some (DV.v (.int .i64 ((firstA ⟨levels, order, types, .mk rh rp⟩ k : Nat) : Int))) := by
        rw [show 0 + (oz (some k)).toNat * 1 = k by simp only [oz]; omega]
        exact cZ_get (hlv k hkl)
      refine ⟨_, hld, ?_⟩
      refine ⟨by simp [dInts_len]; omega, ⟨by simp [dInts_len, maxLen]; omega, by simp [dInts_len]; omega⟩, ?_⟩
      exact ⟨pl2St ⟨levels, order, types, .mk rh rp⟩ ord lc m l (e + 1) (e + 1), (weak_b 3 rfl (by repeat' (first | exact rfl | exact we_rfl rfl | exact weL_cZ _ | exact we_int (nxt hlt (by omega)) | exact we_sl hsn rfl | refine ⟨_, _, rfl, ?_, ?_⟩)) rfl rfl rfl (by repeat' (first | exact trivial | exact we_rfl rfl | exact weL_cZ _ | exact we_int (nxt hlt (by omega)) | exact we_sl hsn rfl | refine ⟨⟨_, rfl, ?_⟩, ?_⟩))), types.length - (e + 1), by omega, e + 1, rfl, by omega, rfl⟩
    · have hge : e = types.length := by have := hL; simp [hN] at this; omega
      subst hge
      have ht : (namedL ⟨levels, order, types, .mk rh rp⟩).take types.length = namedL ⟨levels, order, types, .mk rh rp⟩ := by rw [← hnl, List.take_length]
      rw [ht]
      exact ⟨.tup [], [bC ⟨levels, order, types, .mk rh rp⟩ (.pt lc 0) (.loc 1 0) m, pC ⟨levels, order, types, .mk rh rp⟩ ord (.pt lc 0) (.v (.slice none 0 0)) (.v (.int .i64 0)) (.sl 1 (dInts (namedL ⟨levels, order, types, .mk rh rp⟩)) none)], (by repeat' (first | exact rfl | exact trivial | exact Or.inr (Or.inl ⟨_, rfl⟩) | exact Or.inr ⟨_, rfl⟩ | exact Or.inl ⟨rfl, rfl⟩ | exact Or.inl rfl | refine Or.inr ⟨_, _, rfl, Nat.zero_le _, rfl, ?_⟩ | refine ⟨_, _, rfl, ?_, ?_⟩ | refine ⟨_, rfl, ?_⟩ | refine Or.inr (Or.inr (Or.inr ⟨_, _, rfl, ?_⟩)) | exact Or.inl rfl | refine Or.inr ?_)), (by repeat' (first | exact rfl | exact trivial | exact Or.inr (Or.inl ⟨_, rfl⟩) | exact Or.inr ⟨_, rfl⟩ | exact Or.inl ⟨rfl, rfl⟩ | exact Or.inl rfl | refine Or.inr ⟨_, _, rfl, Nat.zero_le _, rfl, ?_⟩ | refine ⟨_, _, rfl, ?_, ?_⟩ | refine ⟨_, rfl, ?_⟩ | exact ⟨Nat.le_of_ble_eq_true rfl, rfl⟩ | refine Or.inr (Or.inr (Or.inr ⟨_, _, rfl, ?_⟩)) | exact Or.inl rfl | refine Or.inr ?_)), rfl⟩
end Go.Proofs.YtmphiikdhifhjaaGreat
set_option maxRecDepth 100000
namespace Go.Proofs.YtmphiikdhifhjaaGreat
open Go Go.RowKit Dv Tryz

/-- An edge, and a node. -/
structure Ed where
  name : ByteArray
  bare : Bool
  at' : Int
  to : Int
  label : Int
  wide : Int
  ck : Int
  cn : Int
  seen : Int
  ca : Int
structure Nd where
  kind : Int
  at' : Int
  lo : Int
  hi : Int
  most : Int
  names : List ByteArray
  edges : List Ed
def dEd (e : Ed) : List DV := [.v (.string e.name), .v (.bool e.bare), .v (.int .i64 e.at'), .v (.int .i64 e.to), .v (.int .i64 e.label), .v (.int .i64 e.wide), .v (.int .i64 e.ck), .v (.int .i64 e.cn), .v (.int .i64 e.seen), .v (.int .i64 e.ca)]
def dEds (l : List Ed) : List (List DV) := l.map dEd
def dNd (n : Nd) : List DV := [.v (.int .i64 n.kind), .v (.int .i64 n.at'), .v (.int .i64 n.lo), .v (.int .i64 n.hi), .v (.int .i64 n.most), .sl 1 (dBs n.names) none, .sl 10 (dEds n.edges) none]
def dNds (l : List Nd) : List (List DV) := l.map dNd

def wideF (w : Int) : Int := if w = 0 then 3 else w
/-- The edge of a part, to a node. -/
def mkEd (lev : List Wd → Int) (p : Ph) (to : Int) : Ed := ⟨p.name.s, p.bare, p.name.a, to, lev p.label, wideF p.wide, p.ck, p.cn, lev p.cl, p.ca⟩
/-- What the type of a name is. -/
def nmF (s : Sch) (name : ByteArray) : Int := (namedN s ((ixOf (tL s) name).getD 0) : Int)
/-- The node that a type is, if the next one is the k-th. -/
def idxF (s : Sch) (t : Ty) (k : Nat) : Int := if t.h.kind = 9 then nmF s t.h.name.s else (k : Int)
def toF (s : Sch) (p : Ph) (u : Ty) (k : Nat) : Int := if p.bare then -1 else idxF s u k

mutual
/-- The nodes of a type, of which the first is the k-th. -/
def ndsT (lev : List Wd → Int) (s : Sch) : Ty → Nat → List Nd
  | .mk h ps, k => if h.kind = 9 then [] else ⟨h.kind, h.at', h.lo, h.hi, h.most, nmTx h.names, edsP lev s ps (k + 1)⟩ :: ndsP lev s ps (k + 1)
def edsP (lev : List Wd → Int) (s : Sch) : Pts → Nat → List Ed
  | .nil, _ => []
  | .cons p u r, k => mkEd lev p (toF s p u k) :: edsP lev s r (k + if p.bare then 0 else u.nn)
def ndsP (lev : List Wd → Int) (s : Sch) : Pts → Nat → List Nd
  | .nil, _ => []
  | .cons p u r, k => (if p.bare then [] else ndsT lev s u k) ++ ndsP lev s r (k + if p.bare then 0 else u.nn)
end
mutual
theorem ndsT_len (lev : List Wd → Int) (s : Sch) : ∀ (t : Ty) (k : Nat), (ndsT lev s t k).length = t.nn
  | .mk h ps, k => by
    simp only [ndsT, Ty.nn]
    split
    · rfl
    · rw [List.length_cons, ndsP_len lev s ps]; omega
theorem ndsP_len (lev : List Wd → Int) (s : Sch) : ∀ (ps : Pts) (k : Nat), (ndsP lev s ps k).length = ps.nn
  | .nil, k => rfl
  | .cons p u r, k => by
    simp only [ndsP, Pts.nn, List.length_append, ndsP_len lev s r]
    split
    · rfl
    · rw [ndsT_len lev s u]
end

/-- The plan's cells while its nodes are made. -/
abbrev pCn (s : Sch) (ord : List Nat) (lc : List DV) (n : Nat) : List DV := pC s ord (.pt lc 0) (.sl 0 (List.replicate n []) (some 0)) (.v (.int .i64 0)) (.sl 1 (dInts (namedL s)) none)
abbrev rowN (n : Nat) (base : List DV) : TkE := ⟨n, 60, 7, some base⟩
def MadeΦ (s : Sch) (ord : List Nat) (lc : List DV) (m : Int) (n : Nat) (base : List DV) (y : DV) (nds : List Nd) (r : DV) (os : List (List DV)) (tk : List TkE) : Prop :=
  r = y ∧ os = [bC s (.pt lc 0) (.loc 1 0) m, pCn s ord lc (n + nds.length)] ∧ tk = [rowN (n + nds.length) (base ++ (dNds nds).flatten)]
/-- What b.node does with a type. -/
def NodeOK (lev : List Wd → Int) (s : Sch) (ord : List Nat) (lc : List DV) (m : Int) (t : Ty) : Prop :=
  ∀ (n : Nat) (base : List DV), n + t.nn ≤ 1099511627776 → base.length = n * 7 →
    Ev Tryz.prog 95 [.loc 0 0, .agg (dTy t)] [bC s (.pt lc 0) (.loc 1 0) m, pCn s ord lc n] [rowN n base] (MadeΦ s ord lc m n base (.v (.int .i64 (idxF s t n))) (ndsT lev s t n))

theorem edge_spec {X : Lx} (hX : X.OK) (s : Sch) (ord : List Nat) (m : Int) (p : Ph) (u : Ty) (hp : p.wt ≤ 1099511627776) (hnode : p.bare = false → NodeOK X.lev s ord (dLs X.names (dTbl X.names X.ord) X.rows X.js) m u)
    (n : Nat) (base : List DV) (hb : p.bare = false → n + u.nn ≤ 1099511627776) (hbl : base.length = n * 7) :
    Ev Tryz.prog 152 [.loc 0 0, .agg (dPh p (dTy u))] [bC s (.pt (dLs X.names (dTbl X.names X.ord) X.rows X.js) 0) (.loc 1 0) m, pCn s ord (dLs X.names (dTbl X.names X.ord) X.rows X.js) n] [rowN n base]
      (MadeΦ s ord (dLs X.names (dTbl X.names X.ord) X.rows X.js) m n base (.agg (dEd (mkEd X.lev p (toF s p u n)))) (if p.bare then [] else ndsT X.lev s u n)) := by
  have hw1 : wdsWt p.label + wdsWt p.cl ≤ p.wt := by simp only [Ph.wt]; omega
  have hpd : X.pd = .pt (dLs X.names (dTbl X.names X.ord) X.rows X.js) 0 := rfl
  have hl1 := fun pc => level_spec hX s pc m p.label (by omega)
  have hl2 := fun pc => level_spec hX s pc m p.cl (by omega)
  rw [hpd] at hl1 hl2
  have hE := fun to => mkEd.eq_1 X.lev p to
  have hto := toF.eq_1 s p u n
  generalize dLs X.names (dTbl X.names X.ord) X.rows X.js = lc at hl1 hl2 hnode ⊢
  obtain ⟨levels, order, types, ⟨rh, rp⟩⟩ := s
  obtain ⟨uh, us⟩ := u
  refine ev_go (P := Tryz.prog) tt tt_ok 5000 52 [.cell 4 75] Tryz.func152 rfl Tryz.ntmps152 rfl (Nat.le_of_ble_eq_true rfl) (fun E9 w9 hn9 hm9 => ?_)
  have hlev1 := hl1 [.pt lc 0, .sl 0 (List.replicate n []) none, .v (.int .i64 0), .pt (dTbl (tL ⟨levels, order, types, .mk rh rp⟩) ord) 0, .sl 1 (dInts (namedL ⟨levels, order, types, .mk rh rp⟩)) none]
  have hlev2 := hl2 [.pt lc 0, .sl 0 (List.replicate n []) none, .v (.int .i64 0), .pt (dTbl (tL ⟨levels, order, types, .mk rh rp⟩) ord) 0, .sl 1 (dInts (namedL ⟨levels, order, types, .mk rh rp⟩)) none]
  apply drawG_two (fun _ => false) 11 15 [0, 1, 2, 3, 4, 5, 6, 7, 8, 9, 10, 11, 12, 13, 14, 15, 16] [0, 1, 2, 3, 4, 5, 6, 7, 8, 9, 10, 15, 11, 12, 13, 14, 16] 4 4 mo (by decide +kernel)
  · refine callD_b (enters_of Tryz.func188 (by decide +kernel) rfl) hlev1 (by repeat' (first | exact rfl | exact trivial | exact Or.inr (Or.inl ⟨_, rfl⟩) | exact Or.inr ⟨_, rfl⟩ | exact Or.inl ⟨rfl, rfl⟩ | exact Or.inl rfl | refine Or.inr ⟨_, _, rfl, Nat.zero_le _, rfl, ?_⟩ | refine ⟨_, _, rfl, ?_, ?_⟩ | refine ⟨_, rfl, ?_⟩ | refine Or.inr (Or.inr (Or.inr ⟨_, _, rfl, ?_⟩)) | exact Or.inl rfl | refine Or.inr ?_)) rfl rfl ?_
    refine (?_ : @Eq St _ _)
    exact rfl
  · refine callD_b (enters_of Tryz.func188 (by decide +kernel) rfl) hlev1 (by repeat' (first | exact rfl | exact trivial | exact Or.inr (Or.inl ⟨_, rfl⟩) | exact Or.inr ⟨_, rfl⟩ | exact Or.inl ⟨rfl, rfl⟩ | exact Or.inl rfl | refine Or.inr ⟨_, _, rfl, Nat.zero_le _, rfl, ?_⟩ | refine ⟨_, _, rfl, ?_, ?_⟩ | refine ⟨_, rfl, ?_⟩ | refine Or.inr (Or.inr (Or.inr ⟨_, _, rfl, ?_⟩)) | exact Or.inl rfl | refine Or.inr ?_)) rfl rfl ?_
    refine (⟨rfl, rfl, ?_⟩ : _ ∧ _ ∧ _)
    repeat' (first | exact trivial | refine ⟨rfl, ?_⟩)
  · rfl
  refine br (fun hw => ?_) (fun hw => ?_)
  · have hw : p.wide = 0 := by simpa using hw
    refine drawG_m [4] (fun _ => false) mo (by decide +kernel) ?_
    refine callD_b (enters_of Tryz.func188 (by decide +kernel) rfl) hlev2 (by repeat' (first | exact rfl | exact trivial | exact Or.inr (Or.inl ⟨_, rfl⟩) | exact Or.inr ⟨_, rfl⟩ | exact Or.inl ⟨rfl, rfl⟩ | exact Or.inl rfl | refine Or.inr ⟨_, _, rfl, Nat.zero_le _, rfl, ?_⟩ | refine ⟨_, _, rfl, ?_, ?_⟩ | refine ⟨_, rfl, ?_⟩ | refine Or.inr (Or.inr (Or.inr ⟨_, _, rfl, ?_⟩)) | exact Or.inl rfl | refine Or.inr ?_)) rfl rfl ?_
    refine br (fun hB => ?_) (fun hB => ?_)
    · have hB : p.bare = false := by simpa using hB
      refine call_os 2 1 (enters_of Tryz.func95 (by decide +kernel) rfl) rfl rfl rfl (by repeat' (first | exact rfl | exact trivial | exact Or.inr (Or.inl ⟨_, rfl⟩) | exact Or.inr ⟨_, rfl⟩ | exact Or.inl ⟨rfl, rfl⟩ | exact Or.inl rfl | refine Or.inr ⟨_, _, rfl, Nat.zero_le _, rfl, ?_⟩ | refine ⟨_, _, rfl, ?_, ?_⟩ | refine ⟨_, rfl, ?_⟩ | exact ⟨Nat.le_of_ble_eq_true rfl, rfl⟩ | refine Or.inr (Or.inr (Or.inr ⟨_, _, rfl, ?_⟩)) | exact Or.inl rfl | refine Or.inr ?_)) (by repeat' (first | exact rfl | exact trivial | exact Or.inr (Or.inl ⟨_, rfl⟩) | exact Or.inr ⟨_, rfl⟩ | exact Or.inl ⟨rfl, rfl⟩ | exact Or.inl rfl | refine Or.inr ⟨_, _, rfl, Nat.zero_le _, rfl, ?_⟩ | refine ⟨_, _, rfl, ?_, ?_⟩ | refine ⟨_, rfl, ?_⟩ | exact ⟨Nat.le_of_ble_eq_true rfl, rfl⟩ | refine Or.inr (Or.inr (Or.inr ⟨_, _, rfl, ?_⟩)) | exact Or.inl rfl | refine Or.inr ?_)) (hnode hB n base (hb hB) hbl) (fun r os' tk' hΦ h1 h2 => ?_)
      obtain ⟨rfl, rfl, rfl⟩ := hΦ
      refine ⟨.agg (dEd ⟨p.name.s, p.bare, p.name.a, idxF ⟨levels, order, types, .mk rh rp⟩ (.mk uh us) n, X.lev p.label, 3, p.ck, p.cn, X.lev p.cl, p.ca⟩), [bC ⟨levels, order, types, .mk rh rp⟩ (.pt lc 0) (.loc 1 0) m, pCn ⟨levels, order, types, .mk rh rp⟩ ord lc (n + (ndsT X.lev ⟨levels, order, types, .mk rh rp⟩ (.mk uh us) n).length)], (by repeat' (first | exact rfl | exact trivial | exact Or.inr (Or.inl ⟨_, rfl⟩) | exact Or.inr ⟨_, rfl⟩ | exact Or.inl ⟨rfl, rfl⟩ | exact Or.inl rfl | refine Or.inr ⟨_, _, rfl, Nat.zero_le _, rfl, ?_⟩ | refine ⟨_, _, rfl, ?_, ?_⟩ | refine ⟨_, rfl, ?_⟩ | refine Or.inr (Or.inr (Or.inr ⟨_, _, rfl, ?_⟩)) | exact Or.inl rfl | refine Or.inr ?_)), (by repeat' (first | exact rfl | exact trivial | exact Or.inr (Or.inl ⟨_, rfl⟩) | exact Or.inr ⟨_, rfl⟩ | exact Or.inl ⟨rfl, rfl⟩ | exact Or.inl rfl | refine Or.inr ⟨_, _, rfl, Nat.zero_le _, rfl, ?_⟩ | refine ⟨_, _, rfl, ?_, ?_⟩ | refine ⟨_, rfl, ?_⟩ | exact ⟨Nat.le_of_ble_eq_true rfl, rfl⟩ | refine Or.inr (Or.inr (Or.inr ⟨_, _, rfl, ?_⟩)) | exact Or.inl rfl | refine Or.inr ?_)), ?_, ?_, ?_⟩
      · simp [hE, toF, hB, wideF, hw]
      · simp [hB]
      · simp [hB]
    · have hB : p.bare = true := by simpa using hB
      refine ⟨.agg (dEd ⟨p.name.s, p.bare, p.name.a, -1, X.lev p.label, 3, p.ck, p.cn, X.lev p.cl, p.ca⟩), [bC ⟨levels, order, types, .mk rh rp⟩ (.pt lc 0) (.loc 1 0) m, pCn ⟨levels, order, types, .mk rh rp⟩ ord lc n], (by repeat' (first | exact rfl | exact trivial | exact Or.inr (Or.inl ⟨_, rfl⟩) | exact Or.inr ⟨_, rfl⟩ | exact Or.inl ⟨rfl, rfl⟩ | exact Or.inl rfl | refine Or.inr ⟨_, _, rfl, Nat.zero_le _, rfl, ?_⟩ | refine ⟨_, _, rfl, ?_, ?_⟩ | refine ⟨_, rfl, ?_⟩ | refine Or.inr (Or.inr (Or.inr ⟨_, _, rfl, ?_⟩)) | exact Or.inl rfl | refine Or.inr ?_)), (by repeat' (first | exact rfl | exact trivial | exact Or.inr (Or.inl ⟨_, rfl⟩) | exact Or.inr ⟨_, rfl⟩ | exact Or.inl ⟨rfl, rfl⟩ | exact Or.inl rfl | refine Or.inr ⟨_, _, rfl, Nat.zero_le _, rfl, ?_⟩ | refine ⟨_, _, rfl, ?_, ?_⟩ | refine ⟨_, rfl, ?_⟩ | exact ⟨Nat.le_of_ble_eq_true rfl, rfl⟩ | refine Or.inr (Or.inr (Or.inr ⟨_, _, rfl, ?_⟩)) | exact Or.inl rfl | refine Or.inr ?_)), ?_, ?_, ?_⟩
      · simp [hE, toF, hB, wideF, hw]
      · simp [hB]
      · simp [hB, dNds]
  · have hw : ¬ p.wide = 0 := by simpa using hw
    refine drawG_m [4] (fun _ => false) mo (by decide +kernel) ?_
    refine callD_b (enters_of Tryz.func188 (by decide +kernel) rfl) hlev2 (by repeat' (first | exact rfl | exact trivial | exact Or.inr (Or.inl ⟨_, rfl⟩) | exact Or.inr ⟨_, rfl⟩ | exact Or.inl ⟨rfl, rfl⟩ | exact Or.inl rfl | refine Or.inr ⟨_, _, rfl, Nat.zero_le _, rfl, ?_⟩ | refine ⟨_, _, rfl, ?_, ?_⟩ | refine ⟨_, rfl, ?_⟩ | refine Or.inr (Or.inr (Or.inr ⟨_, _, rfl, ?_⟩)) | exact Or.inl rfl | refine Or.inr ?_)) rfl rfl ?_
    refine br (fun hB => ?_) (fun hB => ?_)
    · have hB : p.bare = false := by simpa using hB
      refine call_os 2 1 (enters_of Tryz.func95 (by decide +kernel) rfl) rfl rfl rfl (by repeat' (first | exact rfl | exact trivial | exact Or.inr (Or.inl ⟨_, rfl⟩) | exact Or.inr ⟨_, rfl⟩ | exact Or.inl ⟨rfl, rfl⟩ | exact Or.inl rfl | refine Or.inr ⟨_, _, rfl, Nat.zero_le _, rfl, ?_⟩ | refine ⟨_, _, rfl, ?_, ?_⟩ | refine ⟨_, rfl, ?_⟩ | exact ⟨Nat.le_of_ble_eq_true rfl, rfl⟩ | refine Or.inr (Or.inr (Or.inr ⟨_, _, rfl, ?_⟩)) | exact Or.inl rfl | refine Or.inr ?_)) (by repeat' (first | exact rfl | exact trivial | exact Or.inr (Or.inl ⟨_, rfl⟩) | exact Or.inr ⟨_, rfl⟩ | exact Or.inl ⟨rfl, rfl⟩ | exact Or.inl rfl | refine Or.inr ⟨_, _, rfl, Nat.zero_le _, rfl, ?_⟩ | refine ⟨_, _, rfl, ?_, ?_⟩ | refine ⟨_, rfl, ?_⟩ | exact ⟨Nat.le_of_ble_eq_true rfl, rfl⟩ | refine Or.inr (Or.inr (Or.inr ⟨_, _, rfl, ?_⟩)) | exact Or.inl rfl | refine Or.inr ?_)) (hnode hB n base (hb hB) hbl) (fun r os' tk' hΦ h1 h2 => ?_)
      obtain ⟨rfl, rfl, rfl⟩ := hΦ
      refine ⟨.agg (dEd ⟨p.name.s, p.bare, p.name.a, idxF ⟨levels, order, types, .mk rh rp⟩ (.mk uh us) n, X.lev p.label, p.wide, p.ck, p.cn, X.lev p.cl, p.ca⟩), [bC ⟨levels, order, types, .mk rh rp⟩ (.pt lc 0) (.loc 1 0) m, pCn ⟨levels, order, types, .mk rh rp⟩ ord lc (n + (ndsT X.lev ⟨levels, order, types, .mk rh rp⟩ (.mk uh us) n).length)], (by repeat' (first | exact rfl | exact trivial | exact Or.inr (Or.inl ⟨_, rfl⟩) | exact Or.inr ⟨_, rfl⟩ | exact Or.inl ⟨rfl, rfl⟩ | exact Or.inl rfl | refine Or.inr ⟨_, _, rfl, Nat.zero_le _, rfl, ?_⟩ | refine ⟨_, _, rfl, ?_, ?_⟩ | refine ⟨_, rfl, ?_⟩ | refine Or.inr (Or.inr (Or.inr ⟨_, _, rfl, ?_⟩)) | exact Or.inl rfl | refine Or.inr ?_)), (by repeat' (first | exact rfl | exact trivial | exact Or.inr (Or.inl ⟨_, rfl⟩) | exact Or.inr ⟨_, rfl⟩ | exact Or.inl ⟨rfl, rfl⟩ | exact Or.inl rfl | refine Or.inr ⟨_, _, rfl, Nat.zero_le _, rfl, ?_⟩ | refine ⟨_, _, rfl, ?_, ?_⟩ | refine ⟨_, rfl, ?_⟩ | exact ⟨Nat.le_of_ble_eq_true rfl, rfl⟩ | refine Or.inr (Or.inr (Or.inr ⟨_, _, rfl, ?_⟩)) | exact Or.inl rfl | refine Or.inr ?_)), ?_, ?_, ?_⟩
      · simp [hE, toF, hB, wideF, hw]
      · simp [hB]
      · simp [hB]
    · have hB : p.bare = true := by simpa using hB
      refine ⟨.agg (dEd ⟨p.name.s, p.bare, p.name.a, -1, X.lev p.label, p.wide, p.ck, p.cn, X.lev p.cl, p.ca⟩), [bC ⟨levels, order, types, .mk rh rp⟩ (.pt lc 0) (.loc 1 0) m, pCn ⟨levels, order, types, .mk rh rp⟩ ord lc n], (by repeat' (first | exact rfl | exact trivial | exact Or.inr (Or.inl ⟨_, rfl⟩) | exact Or.inr ⟨_, rfl⟩ | exact Or.inl ⟨rfl, rfl⟩ | exact Or.inl rfl | refine Or.inr ⟨_, _, rfl, Nat.zero_le _, rfl, ?_⟩ | refine ⟨_, _, rfl, ?_, ?_⟩ | refine ⟨_, rfl, ?_⟩ | refine Or.inr (Or.inr (Or.inr ⟨_, _, rfl, ?_⟩)) | exact Or.inl rfl | refine Or.inr ?_)), (by repeat' (first | exact rfl | exact trivial | exact Or.inr (Or.inl ⟨_, rfl⟩) | exact Or.inr ⟨_, rfl⟩ | exact Or.inl ⟨rfl, rfl⟩ | exact Or.inl rfl | refine Or.inr ⟨_, _, rfl, Nat.zero_le _, rfl, ?_⟩ | refine ⟨_, _, rfl, ?_, ?_⟩ | refine ⟨_, rfl, ?_⟩ | exact ⟨Nat.le_of_ble_eq_true rfl, rfl⟩ | refine Or.inr (Or.inr (Or.inr ⟨_, _, rfl, ?_⟩)) | exact Or.inl rfl | refine Or.inr ?_)), ?_, ?_, ?_⟩
      · simp [hE, toF, hB, wideF, hw]
      · simp [hB]
      · simp [hB, dNds]
end Go.Proofs.YtmphiikdhifhjaaGreat
