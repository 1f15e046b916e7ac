/- Part 3 of the proof: names.New: the table; names.Twice: does a text stand earlier, too?; Contracts: the reference's words, Plain, Same, Zero, own; Contracts: the reference's Same, Zero, own; Contracts: the reference's Label, listed, names, Size, with, coarse; What is wrong with a type: the plain function; the reference's Wrong and parts return it; The program's checks of types: bad, listed, label, words; The program's checks of types: label, coarse; The program's comparing of names and types; The program's Same; The program's own, empty; The program's empty, enum; kinds.Right, once the checker's check is known; Numbers in tens: the reference's Put; Numbers in tens: the program's Put; The text of a type, plain; the reference's Label and comma; The reference's text of a type: Label, comma, part, Type; The reference's text of a part; The reference's text of a type; The library's strings.Join, laid at this program by the kit's tool (lay-plain; wip/tools/lay.sh). No condition. -/
import Derived.Laws.StructEq
import Derived.Shelf.Strings.OnBuilder
import Derived.Test.YtmphiikdhifhjaaGreatMg2
set_option linter.all false
set_option maxRecDepth 100000
namespace Go.Proofs.YtmphiikdhifhjaaGreat
open Go Go.RowKit Dv Tryz

theorem weL_ints' {n m : Nat} {tk : List TkE} : ∀ ds : List Nat, WeL n m tk (dInts ds).flatten (dInts ds).flatten
  | [] => rfl
  | b :: r => ⟨_, _, rfl, we_rfl rfl, weL_ints' r⟩
theorem weL_ints {n m : Nat} {tk : List TkE} {l : List DV} {ds : List Nat} (h : l = (dInts ds).flatten) : WeL n m tk l (dInts ds).flatten := by rw [h]; exact weL_ints' ds

/-- The first e places, then zeros. -/
def fillA (n e : Nat) : List Nat := List.range e ++ List.replicate (n - e) 0
theorem fillA_len {n e : Nat} (h : e ≤ n) : (fillA n e).length = n := by simp [fillA]; omega
theorem fillA_0 (n : Nat) : (List.replicate n [DV.v (.int .i64 0)]).flatten = (dInts (fillA n 0)).flatten := by simp [fillA, dInts]
theorem fillA_n (n : Nat) : fillA n n = List.range n := by simp [fillA]
theorem ints_flat (ds : List Nat) : (dInts ds).flatten = ds.map fun (i : Nat) => DV.v (.int .i64 (i : Int)) := by
  induction ds with
  | nil => rfl
  | cons x r ih => simp only [dInts, List.map_cons, List.flatten_cons] at ih ⊢; rw [ih]; rfl
theorem fillA_step {n e : Nat} (h : e < n) : (dInts (fillA n e)).flatten.take e ++ [DV.v (.int .i64 (e : Int))] ++ (dInts (fillA n e)).flatten.drop (e + 1) = (dInts (fillA n (e + 1))).flatten := by
  simp only [ints_flat, ← List.map_take, ← List.map_drop]
  have e1 : (fillA n e).take e = List.range e := by simp [fillA]
  have e2 : (fillA n e).drop (e + 1) = List.replicate (n - (e + 1)) 0 := by
    simp only [fillA, List.drop_append, List.length_range]
    rw [List.drop_eq_nil_of_le (by simp), List.nil_append, List.drop_replicate]
    congr 1
    omega
  rw [e1, e2]
  simp [fillA, List.range_succ]

abbrev fillSt (L : List ByteArray) (e : Nat) : St :=
  ⟨[(3, ⟨[], .loc 1 0⟩), (4, ⟨[], .loc 3 0⟩), (16, ⟨[], .v (.int .i64 (dBs L).length)⟩), (17, ⟨[], .v (.int .i64 e)⟩)],
   [[.sl 1 (dBs L) (some 0), .v (.slice none 0 0)], [.loc 0 0], (dInts (fillA (dBs L).length e)).flatten, [.ms 2 1 0 (dBs L).length (dBs L).length]], [⟨(dBs L).length, 9, 1, none⟩]⟩

/-- Is the i-th of the sorted places the first of its text? -/
def headB (L : List ByteArray) (ds : List Nat) (i : Nat) : Bool := decide (i = 0) || !decide (L.getD (ds.getD i 0) emptyB = L.getD (ds.getD (i - 1) 0) emptyB)
def ordTo (L : List ByteArray) (ds : List Nat) (e : Nat) : List Nat := ((List.range e).filter (headB L ds)).map fun i => ds.getD i 0

theorem ordTo_succ (L : List ByteArray) (ds : List Nat) (e : Nat) : ordTo L ds (e + 1) = ordTo L ds e ++ (if headB L ds e = true then [ds.getD e 0] else []) := by
  unfold ordTo
  rw [List.range_succ, List.filter_append, List.map_append]
  congr 1
  cases h : headB L ds e <;> simp [h]
theorem ordTo_len (L : List ByteArray) (ds : List Nat) (e : Nat) : (ordTo L ds e).length ≤ e := by
  unfold ordTo
  rw [List.length_map]
  exact Nat.le_trans (List.length_filter_le _ _) (by simp)

abbrev frz1St (L : List ByteArray) (ds : List Nat) : St :=
  ⟨[(3, ⟨[], .loc 1 0⟩), (4, ⟨[], .pt [.sl 1 (dInts ds) none] 0⟩), (29, ⟨[], .sl 1 (dInts ds) none⟩), (30, ⟨[], .v (.int .i64 (dBs L).length)⟩), (31, ⟨[], .v (.int .i64 0)⟩)],
   [[.sl 1 (dBs L) (some 0), .v (.slice none 0 0)], [.loc 0 0]], [⟨(dBs L).length, 9, 1, none⟩]⟩
abbrev newSt (L : List ByteArray) (ds ord : List Nat) (m e : Nat) : St :=
  ⟨[(3, ⟨[], .loc 1 0⟩), (4, ⟨[], .pt [.sl 1 (dInts ds) none] 0⟩), (29, ⟨[], .sl 1 (dInts ds) none⟩), (30, ⟨[], .v (.int .i64 (dBs L).length)⟩), (31, ⟨[], .v (.int .i64 e)⟩)],
   [[.sl 1 (dBs L) (some 0), .sl 1 (dInts ord) (some 1)], [.loc 0 0]], [⟨(dBs L).length, 9, 1, none⟩, ⟨m, 3, 1, none⟩]⟩

theorem getD_some {α : Type} {l : List α} {i : Nat} {x d : α} (h : l[i]? = some x) : l.getD i d = x := by simp [List.getD_eq_getElem?_getD, h]
theorem some_getD {α : Type} {l : List α} {i : Nat} {d : α} (h : i < l.length) : l[i]? = some (l.getD i d) := by
  rw [List.getElem?_eq_getElem h, List.getD_eq_getElem?_getD, List.getElem?_eq_getElem h]; rfl

theorem tbl_ok {L : List ByteArray} {ds : List Nat} (hperm : ds.Perm (List.range L.length)) (hsrt : ∀ i j p q : Nat, i < j → ds[i]? = some p → ds[j]? = some q → nLt L q p = false) : TblOK L (ordTo L ds L.length) := by
  have hlen : ds.length = L.length := by rw [hperm.length_eq, List.length_range]
  let D : Nat → Nat := fun i => ds.getD i 0
  let T : Nat → ByteArray := fun i => L.getD (D i) emptyB
  have hD : ∀ i, i < L.length → ds[i]? = some (D i) := fun i hi => some_getD (by omega)
  have hDn : ∀ i, i < L.length → D i < L.length := fun i hi => by
    have := hperm.mem_iff.1 (List.mem_of_getElem? (hD i hi))
    exact List.mem_range.1 this
  have hT : ∀ i, i < L.length → L[D i]? = some (T i) := fun i hi => some_getD (hDn i hi)
  have hle : ∀ i j, i < j → j < L.length → T i = T j ∨ bLt (T i) (T j) = true := by
    intro i j hij hj
    have h := hsrt i j (D i) (D j) hij (hD i (by omega)) (hD j hj)
    unfold nLt at h
    by_cases he : T j = T i
    · exact .inl he.symm
    · rw [if_neg he] at h
      rcases bLt_tot h with h | h
      · exact absurd h he
      · exact .inr h
  have hhead : ∀ i, i < L.length → headB L ds i = true → ∀ j, j < i → bLt (T j) (T i) = true := by
    intro i hi hh j hji
    have hne : T i ≠ T (i - 1) := by
      intro he
      unfold headB at hh
      have : decide (i = 0) = false := by simp; omega
      rw [this] at hh
      simp only [Bool.false_or, Bool.not_eq_true', decide_eq_false_iff_not] at hh
      exact hh he
    have h1 : bLt (T (i - 1)) (T i) = true := by
      rcases hle (i - 1) i (by omega) hi with h | h
      · exact absurd h.symm hne
      · exact h
    by_cases hj : j = i - 1
    · rw [hj]; exact h1
    · rcases hle j (i - 1) (by omega) (by omega) with h | h
      · rw [h]; exact h1
      · exact bytesLess_trans h h1
  have hfind : ∀ j, j < L.length → ∃ k, k < L.length ∧ D k = j := by
    intro j hj
    have := hperm.mem_iff.2 (List.mem_range.2 hj)
    obtain ⟨k, hk⟩ := List.getElem?_of_mem this
    have hkl := (List.getElem?_eq_some_iff.1 hk).1
    exact ⟨k, by omega, getD_some hk⟩
  let H := (List.range L.length).filter (headB L ds)
  have hH : ∀ (a i : Nat), H[a]? = some i → i < L.length ∧ headB L ds i = true := fun a i h => by
    have := List.mem_of_getElem? h
    simp only [H, List.mem_filter, List.mem_range] at this
    exact this
  have hord : ∀ (a p : Nat), (ordTo L ds L.length)[a]? = some p → ∃ i, H[a]? = some i ∧ D i = p := by
    intro a p h
    unfold ordTo at h
    rw [List.getElem?_map] at h
    cases hh : H[a]? with
    | none => rw [show (List.filter (headB L ds) (List.range L.length))[a]? = none from hh] at h; cases h
    | some i =>
      rw [show (List.filter (headB L ds) (List.range L.length))[a]? = some i from hh] at h
      simp only [Option.map_some, Option.some.injEq] at h
      exact ⟨i, rfl, h⟩
  have hinc : ∀ (a b i k : Nat), a < b → H[a]? = some i → H[b]? = some k → i < k := by
    intro a b i k hab hi hk
    have hp : List.Pairwise (· < ·) H := List.Pairwise.filter _ List.pairwise_lt_range
    obtain ⟨ha, rfl⟩ := List.getElem?_eq_some_iff.1 hi
    obtain ⟨hb, rfl⟩ := List.getElem?_eq_some_iff.1 hk
    exact List.pairwise_iff_getElem.1 hp a b ha hb hab
  refine ⟨?_, ?_, ?_, ?_⟩
  · intro a p h
    obtain ⟨i, hi, rfl⟩ := hord a p h
    exact hDn i (hH a i hi).1
  · intro a b p q s t hab hp hq hs ht
    obtain ⟨i, hi, rfl⟩ := hord a p hp
    obtain ⟨k, hk, rfl⟩ := hord b q hq
    rw [hT i (hH a i hi).1] at hs
    rw [hT k (hH b k hk).1] at ht
    simp only [Option.some.injEq] at hs ht
    rw [← hs, ← ht]
    exact hhead k (hH b k hk).1 (hH b k hk).2 i (hinc a b i k hab hi hk)
  · intro a p j s hp hs hj
    obtain ⟨i, hi, rfl⟩ := hord a p hp
    obtain ⟨hin, hih⟩ := hH a i hi
    obtain ⟨k, hk, rfl⟩ := hfind j (List.getElem?_eq_some_iff.1 hj).1
    rw [hT i hin] at hs
    rw [hT k hk] at hj
    simp only [Option.some.injEq] at hs hj
    rcases Nat.lt_trichotomy k i with h | h | h
    · have := hhead i hin hih k h
      rw [hs, hj, bLt, bytesLess_irr] at this
      cases this
    · rw [h]; exact Nat.le_refl _
    · have h2 := hsrt i k (D i) (D k) h (hD i hin) (hD k hk)
      unfold nLt at h2
      have he : L.getD (D k) emptyB = L.getD (D i) emptyB := by
        show T k = T i
        rw [hj, hs]
      rw [if_pos he] at h2
      simp at h2
      omega
  · intro j s hj
    obtain ⟨k, hk, rfl⟩ := hfind j (List.getElem?_eq_some_iff.1 hj).1
    rw [hT k hk] at hj
    simp only [Option.some.injEq] at hj
    obtain ⟨i, ⟨hin, his⟩, hmin⟩ := least (p := fun i => i < L.length ∧ T i = s) ⟨k, hk, hj⟩
    have hih : headB L ds i = true := by
      unfold headB
      by_cases h0 : i = 0
      · simp [h0]
      · have hne : ¬ T i = T (i - 1) := fun he => by
          have := hmin (i - 1) ⟨by omega, by rw [← he]; exact his⟩
          omega
        have e1 : decide (L.getD (ds.getD i 0) emptyB = L.getD (ds.getD (i - 1) 0) emptyB) = false := decide_eq_false hne
        rw [e1]; simp
    have hm : i ∈ H := by simp only [H, List.mem_filter, List.mem_range]; exact ⟨hin, hih⟩
    obtain ⟨a, ha⟩ := List.getElem?_of_mem hm
    refine ⟨a, D i, ?_, by rw [hT i hin, his]⟩
    unfold ordTo
    rw [List.getElem?_map]
    rw [show (List.filter (headB L ds) (List.range L.length))[a]? = some i from ha]
    rfl

theorem new_spec (L : List ByteArray) (hl : L.length ≤ 1099511627776) :
    Ev Tryz.prog 141 [.sl 1 (dBs L) none] [] [] (fun r _ _ => ∃ ord, TblOK L ord ∧ ord.length ≤ L.length ∧ r = .pt (dTbl L ord) 0) := by
  have hN := dBs_len L
  refine ev_go (P := Tryz.prog) tt tt_ok 5000 71 [.tmp 2] Tryz.func141 rfl Tryz.ntmps141 rfl (Nat.le_of_ble_eq_true rfl) (fun E9 w9 hn9 hm9 => ?_)
  refine ⟨⟨by simp [hN, maxLen]; omega, by simp [hN]; omega⟩, ?_⟩
  refine ⟨⟨rfl, by omega, by omega, by omega⟩, ?_⟩
  refine loop_i (fun j st => ∃ e : Nat, st = fillSt L e ∧ e ≤ L.length ∧ j = L.length - e) L.length (fillSt L 0) (weak_b 4 rfl (by repeat' (first | exact rfl | exact we_rfl rfl | exact weL_ints (fillA_0 _) | refine ⟨_, _, rfl, ?_, ?_⟩)) rfl rfl rfl (by repeat' (first | exact trivial | exact we_rfl rfl | exact weL_ints (fillA_0 _) | refine ⟨⟨_, rfl, ?_⟩, ?_⟩))) ⟨0, rfl, by omega, rfl⟩ ?_
  rintro j st ⟨e, rfl, he, rfl⟩
  refine br (fun h => ?_) (fun h => ?_)
  · have hlt : e < (dBs L).length := by simpa using h
    refine ⟨⟨by omega, by omega⟩, ?_⟩
    have e1 : (dInts (fillA (dBs L).length e)).flatten.length = (dBs L).length := by rw [ints_flat, List.length_map, fillA_len (by omega)]
    refine ⟨by rw [e1]; omega, ?_⟩
    have hcs : (dInts (fillA (dBs L).length e)).flatten.set (0 + (e : Int).toNat * 1) (DV.v (.int .i64 (e : Int))) = (dInts (fillA (dBs L).length (e + 1))).flatten := by
      rw [show 0 + (e : Int).toNat * 1 = e by omega, List.set_eq_take_append_cons_drop, if_pos (by rw [e1]; omega), ← fillA_step hlt]
      simp
    refine ⟨fillSt L (e + 1), (weak_b 4 rfl (by repeat' (first | exact rfl | exact we_rfl rfl | exact weL_ints hcs | exact we_int (nxt hlt (by omega)) | refine ⟨_, _, rfl, ?_, ?_⟩)) rfl rfl rfl (by repeat' (first | exact trivial | exact we_rfl rfl | exact weL_ints hcs | exact we_int (nxt hlt (by omega)) | refine ⟨⟨_, rfl, ?_⟩, ?_⟩))), L.length - (e + 1), by omega, e + 1, rfl, by omega, rfl⟩
  · have hge : e = (dBs L).length := by
      have : ¬ e < (dBs L).length := by simpa using h
      omega
    subst hge
    rw [fillA_n]
    have hms : ∀ dk : List Nat, dk.length = (List.range (dBs L).length).length → ∀ bx : List (List DV), bx[2]? = some (dInts dk).flatten → ∀ N0 n0 m0 : Nat, N0 ≤ 2 → Cc bx N0 n0 m0 (.sl 1 (dInts dk) none) (.ms 2 1 0 (dBs L).length (dBs L).length) := by
      intro dk hdk bx hb N0 n0 m0 hN0
      simp only [Cc]
      refine Or.inr (Or.inr (Or.inl ⟨2, 0, (dBs L).length, _, ?_, hN0, hb, ?_, ?_, ?_⟩))
      · rw [dInts_len, hdk, List.length_range]
      · rw [List.drop_zero, List.take_of_length_le]
        rw [ints_flat, List.length_map, dInts_len]; omega
      · intro x hx
        simp only [dInts, List.mem_map] at hx
        obtain ⟨_, _, rfl⟩ := hx
        rfl
      · intro x hx
        rw [ints_flat] at hx
        obtain ⟨_, _, rfl⟩ := List.mem_map.1 hx
        exact ⟨_, rfl⟩
    refine call_sort (ds := List.range (dBs L).length) rfl (by simp) (dBs L).length (fun p hp => List.mem_range.1 hp) (nLt L) (nLt_swo L) rfl (by simp [hN]; omega)
      (fun dk => [.pt [.sl 1 (dInts dk) none] 0, .pt [.pt [.sl 1 (dBs L) none, .v (.slice none 0 0)] 0] 0])
      (fun dk hdk => ⟨_, _, rfl, Or.inr ⟨3, _, rfl, Nat.zero_le _, rfl, ⟨_, _, rfl, hms dk hdk _ rfl 0 0 0 (Nat.zero_le _), rfl⟩⟩, (by repeat' (first | exact rfl | exact trivial | exact Or.inr (Or.inl ⟨_, rfl⟩) | exact Or.inr ⟨_, rfl⟩ | exact Or.inl ⟨rfl, rfl⟩ | exact Or.inl rfl | refine Or.inr ⟨_, _, rfl, Nat.zero_le _, rfl, ?_⟩ | refine ⟨_, _, rfl, ?_, ?_⟩ | refine ⟨_, rfl, ?_⟩ | refine Or.inr (Or.inr (Or.inr ⟨_, _, rfl, ?_⟩)) | exact Or.inl rfl | refine Or.inr ?_))⟩)
      (fun dk hdk hp i j p q hi hj => less_spec L dk i j p q hi hj (by have := hp p (List.mem_of_getElem? hi); omega) (by have := hp q (List.mem_of_getElem? hj); omega)) rfl (fun ds hperm hsrt => ?_)
    have hdl : ds.length = (dBs L).length := by rw [hperm.length_eq, List.length_range]
    have hmsd := hms ds (by rw [hdl, List.length_range])
    refine loop_frz 2 (frz1St L ds) rfl rfl rfl ⟨_, _, rfl, ⟨_, _, rfl, ⟨Nat.le_of_ble_eq_true rfl, rfl⟩, _, _, rfl, rfl, rfl⟩, _, _, rfl, ⟨_, _, rfl, ⟨Nat.le_of_ble_eq_true rfl, rfl⟩, rfl⟩, rfl⟩
      ⟨⟨_, rfl, ⟨Nat.le_of_ble_eq_true rfl, rfl⟩⟩, ⟨_, rfl, Or.inr ⟨3, _, rfl, by decide, rfl, ⟨_, _, rfl, hmsd _ rfl 2 0 0 (by decide), rfl⟩⟩⟩, ⟨_, rfl, hmsd _ rfl 2 2 1 (by decide)⟩, ⟨_, rfl, rfl⟩, ⟨_, rfl, rfl⟩, trivial⟩ ?_
    refine loop_i (fun j st => ∃ e m : Nat, st = newSt L ds (ordTo L ds e) m e ∧ m = (ordTo L ds e).length ∧ e ≤ (dBs L).length ∧ j = (dBs L).length - e) (dBs L).length (newSt L ds [] 0 0)
      (weak_bt 2 ⟨0, 3, 1, none⟩ rfl rfl rfl (by repeat' (first | exact rfl | exact we_rfl rfl | exact we_tok (Nat.le_refl _) rfl | refine ⟨_, _, rfl, ?_, ?_⟩)) rfl rfl (by repeat' (first | exact trivial | exact we_rfl rfl | refine ⟨⟨_, rfl, ?_⟩, ?_⟩))) ⟨0, 0, rfl, rfl, by omega, by omega⟩ ?_
    rintro j st ⟨e, m, rfl, hm, he, rfl⟩
    have hol := ordTo_len L ds e
    refine br (fun h => ?_) (fun h => ?_)
    · have hlt : e < (dBs L).length := by simpa using h
      obtain ⟨p, hp⟩ : ∃ p, ds[e]? = some p := ⟨_, List.getElem?_eq_getElem (by omega)⟩
      have hpL : p < L.length := by
        have := hperm.mem_iff.1 (List.mem_of_getElem? hp)
        rw [List.mem_range] at this; omega
      obtain ⟨s, hs⟩ : ∃ s, L[p]? = some s := ⟨_, List.getElem?_eq_getElem hpL⟩
      refine ⟨_, ⟨by omega, dInts_get hp⟩, ?_⟩
      have hgp : ds.getD e 0 = p := by simp [List.getD_eq_getElem?_getD, hp]
      have hgs : L.getD p emptyB = s := by simp [List.getD_eq_getElem?_getD, hs]
      have hnew : headB L ds e = true → ordTo L ds (e + 1) = ordTo L ds e ++ [p] := fun hh => by rw [ordTo_succ, if_pos hh, hgp]
      have hold : headB L ds e = false → ordTo L ds (e + 1) = ordTo L ds e := fun hh => by rw [ordTo_succ, if_neg (by rw [hh]; decide), List.append_nil]
      have hsnoc : headB L ds e = true → dInts (ordTo L ds e) ++ [[DV.v (.int .i64 (p : Int))]] = dInts (ordTo L ds (e + 1)) := fun hh => by rw [hnew hh]; simp [dInts]
      by_cases h0 : e = 0
      · subst h0
        have hh : headB L ds 0 = true := by simp [headB]
        refine drawG_i (fun _ => false) mo (by decide +kernel) ?_
        refine drawG_s mo (by decide +kernel) ?_
        refine ⟨by rw [dInts_len, hm], ⟨by simp [dInts_len, maxLen]; omega, by simp [dInts_len]; omega⟩, ?_⟩
        refine ⟨newSt L ds (ordTo L ds 1) (m + 1) 1, (weak_b 2 rfl (by repeat' (first | exact rfl | exact we_rfl rfl | exact we_int (nxt hlt (by omega)) | exact we_sl (hsnoc hh) rfl | refine ⟨_, _, rfl, ?_, ?_⟩)) rfl rfl rfl (by repeat' (first | exact trivial | exact we_rfl rfl | exact we_int (nxt hlt (by omega)) | exact we_sl (hsnoc hh) rfl | refine ⟨⟨_, rfl, ?_⟩, ?_⟩))), (dBs L).length - 1, by omega, 1, m + 1, rfl, by rw [hnew hh, List.length_append, hm]; rfl, by omega, rfl⟩
      · obtain ⟨p', hp'⟩ : ∃ p', ds[e - 1]? = some p' := ⟨_, List.getElem?_eq_getElem (by omega)⟩
        have hpL' : p' < L.length := by
          have := hperm.mem_iff.1 (List.mem_of_getElem? hp')
          rw [List.mem_range] at this; omega
        obtain ⟨s', hs'⟩ : ∃ s', L[p']? = some s' := ⟨_, List.getElem?_eq_getElem hpL'⟩
        have hgp' : ds.getD (e - 1) 0 = p' := by simp [List.getD_eq_getElem?_getD, hp']
        have hgs' : L.getD p' emptyB = s' := by simp [List.getD_eq_getElem?_getD, hs']
        have hhd : headB L ds e = !decide (s = s') := by
          unfold headB
          rw [hgp, hgp', hgs, hgs']
          simp [h0]
        have hz : IntKind.i64.wrap ((e : Int) - 1) = ((e - 1 : Nat) : Int) := by rw [wrap64 (by omega) (by omega)]; omega
        refine drawG_i (fun _ => false) mo (by decide +kernel) ?_
        refine br (fun _ => ?_) (fun h => ?_)
        · refine ⟨_, ⟨by omega, dBs_get hs⟩, ?_⟩
          refine ⟨[.v (.int .i64 (p' : Int))], ⟨by rw [hz]; omega, by rw [hz]; exact dInts_get hp'⟩, ?_⟩
          refine ⟨_, ⟨by omega, dBs_get hs'⟩, ?_⟩
          refine br (fun h2 => ?_) (fun h2 => ?_)
          · have hh : headB L ds e = true := by
              rw [hhd]
              simp [pickB_or, h0] at h2
              simpa using h2
            refine drawG_s mo (by decide +kernel) ?_
            refine ⟨by rw [dInts_len, hm], ⟨by simp [dInts_len, maxLen]; omega, by simp [dInts_len]; omega⟩, ?_⟩
            refine ⟨newSt L ds (ordTo L ds (e + 1)) (m + 1) (e + 1), (weak_b 2 rfl (by repeat' (first | exact rfl | exact we_rfl rfl | exact we_int (nxt hlt (by omega)) | exact we_sl (hsnoc hh) rfl | refine ⟨_, _, rfl, ?_, ?_⟩)) rfl rfl rfl (by repeat' (first | exact trivial | exact we_rfl rfl | exact we_int (nxt hlt (by omega)) | exact we_sl (hsnoc hh) rfl | refine ⟨⟨_, rfl, ?_⟩, ?_⟩))), (dBs L).length - (e + 1), by omega, e + 1, m + 1, rfl, by rw [hnew hh, List.length_append, hm]; rfl, by omega, rfl⟩
          · have hh : headB L ds e = false := by
              rw [hhd]
              simp [pickB_or, h0] at h2
              simpa using h2
            have heq : dInts (ordTo L ds e) = dInts (ordTo L ds (e + 1)) := by rw [hold hh]
            refine ⟨newSt L ds (ordTo L ds (e + 1)) m (e + 1), (weak_b 2 rfl (by repeat' (first | exact rfl | exact we_rfl rfl | exact we_int (nxt hlt (by omega)) | exact we_sl heq rfl | refine ⟨_, _, rfl, ?_, ?_⟩)) rfl rfl rfl (by repeat' (first | exact trivial | exact we_rfl rfl | exact we_int (nxt hlt (by omega)) | exact we_sl heq rfl | refine ⟨⟨_, rfl, ?_⟩, ?_⟩))), (dBs L).length - (e + 1), by omega, e + 1, m, rfl, by rw [hold hh, hm], by omega, rfl⟩
        · exfalso
          have : decide ((e : Int) = 0) = true := by simpa using h
          simp at this
          exact h0 this
    · have hge : e = L.length := by
        have : ¬ e < (dBs L).length := by simpa using h
        omega
      subst hge
      exact ⟨.pt (dTbl L (ordTo L ds L.length)) 0, Or.inr ⟨0, _, rfl, Nat.zero_le _, rfl, (by repeat' (first | exact rfl | exact trivial | exact Or.inr (Or.inl ⟨_, rfl⟩) | exact Or.inr ⟨_, rfl⟩ | exact Or.inl ⟨rfl, rfl⟩ | exact Or.inl rfl | refine Or.inr ⟨_, _, rfl, Nat.zero_le _, rfl, ?_⟩ | refine ⟨_, _, rfl, ?_, ?_⟩ | refine ⟨_, rfl, ?_⟩ | refine Or.inr (Or.inr (Or.inr ⟨_, _, rfl, ?_⟩)) | exact Or.inl rfl | refine Or.inr ?_))⟩, _, tbl_ok (by rw [← hN]; exact hperm) hsrt, hol, rfl⟩
end Go.Proofs.YtmphiikdhifhjaaGreat
set_option maxRecDepth 100000
namespace Go.Proofs.YtmphiikdhifhjaaGreat
open Go Go.RowKit Dv Tryz

abbrev twSt (L : List ByteArray) (ord : List Nat) (e : Nat) : St :=
  ⟨[(3, ⟨[], .pt (dTbl L ord) 0⟩), (10, ⟨[], .sl 1 (dBs L) none⟩), (11, ⟨[], .v (.int .i64 (dBs L).length)⟩), (12, ⟨[], .v (.int .i64 e)⟩)], [], []⟩

theorem nodup_of {α : Type} : ∀ {l : List α}, (∀ (i j : Nat) (x : α), j < i → l[i]? = some x → l[j]? ≠ some x) → l.Nodup
  | l, h => by
    rw [List.nodup_iff_pairwise_ne, List.pairwise_iff_getElem]
    intro i j hi hj hij he
    exact h j i l[j] hij (List.getElem?_eq_getElem hj) (by rw [List.getElem?_eq_getElem hi, he])

theorem twice_spec (L : List ByteArray) (hl : L.length ≤ 1099511627776) :
    Ev Tryz.prog 147 [.sl 1 (dBs L) none] [] [] (fun r _ _ => ∃ z : Int, r = .v (.int .i64 z) ∧ (0 ≤ z ↔ ¬ L.Nodup)) := by
  have hN := dBs_len L
  refine ev_go (P := Tryz.prog) tt tt_ok 5000 28 [.tmp 2] Tryz.func147 rfl Tryz.ntmps147 rfl (Nat.le_of_ble_eq_true rfl) (fun E9 w9 hn9 hm9 => ?_)
  refine call_e (enters_of Tryz.func141 (by decide +kernel) rfl) rfl (new_spec L hl) (by repeat' (first | exact rfl | exact trivial | exact Or.inr (Or.inl ⟨_, rfl⟩) | exact Or.inr ⟨_, rfl⟩ | exact Or.inl ⟨rfl, rfl⟩ | exact Or.inl rfl | refine Or.inr ⟨_, _, rfl, Nat.zero_le _, rfl, ?_⟩ | refine ⟨_, _, rfl, ?_, ?_⟩ | refine ⟨_, rfl, ?_⟩ | refine Or.inr (Or.inr (Or.inr ⟨_, _, rfl, ?_⟩)) | exact Or.inl rfl | refine Or.inr ?_)) (fun r hr => ?_)
  obtain ⟨ord, hT, hol, rfl⟩ := hr
  refine loop_i (fun j st => ∃ e : Nat, st = twSt L ord e ∧ e ≤ L.length ∧ (∀ (i j : Nat) (x : ByteArray), i < e → j < i → L[i]? = some x → L[j]? ≠ some x) ∧ j = L.length - e) L.length (twSt L ord 0) (weak_mk ⟨_, rfl⟩ (by repeat' (first | exact rfl | exact we_rfl rfl | refine ⟨_, _, rfl, ?_, ?_⟩)) rfl rfl rfl (by repeat' (first | exact trivial | exact we_rfl rfl | refine ⟨⟨_, rfl, ?_⟩, ?_⟩))) ⟨0, rfl, by omega, fun i j x hi => by omega, rfl⟩ ?_
  rintro j st ⟨e, rfl, he, hinv, rfl⟩
  refine br (fun h => ?_) (fun h => ?_)
  · have hlt : e < L.length := by simpa [hN] using h
    obtain ⟨s, hs⟩ : ∃ s, L[e]? = some s := ⟨_, List.getElem?_eq_getElem hlt⟩
    obtain ⟨q, p, hq, hp⟩ := hT.all e s hs
    have hpe := hT.fst q p e s hq hp hs
    refine ⟨_, ⟨by omega, dBs_get hs⟩, ?_⟩
    refine call_p (enters_of Tryz.func101 (by decide +kernel) rfl) (find_spec L ord s q p hT (by omega) hq hp) (by repeat' (first | exact rfl | exact trivial | exact Or.inr (Or.inl ⟨_, rfl⟩) | exact Or.inr ⟨_, rfl⟩ | exact Or.inl ⟨rfl, rfl⟩ | exact Or.inl rfl | refine Or.inr ⟨_, _, rfl, Nat.zero_le _, rfl, ?_⟩ | refine ⟨_, _, rfl, ?_, ?_⟩ | refine ⟨_, rfl, ?_⟩ | refine Or.inr (Or.inr (Or.inr ⟨_, _, rfl, ?_⟩)) | exact Or.inl rfl | refine Or.inr ?_)) rfl ?_
    refine br (fun h2 => ?_) (fun h2 => ?_)
    · have h2 : p < e := by simpa using h2
      refine ⟨(e : Int), rfl, ⟨fun _ hnd => ?_, fun _ => by omega⟩⟩
      rw [List.nodup_iff_pairwise_ne, List.pairwise_iff_getElem] at hnd
      obtain ⟨h3, h4⟩ := List.getElem?_eq_some_iff.1 hp
      obtain ⟨h5, h6⟩ := List.getElem?_eq_some_iff.1 hs
      exact hnd p e h3 h5 h2 (by rw [h4, h6])
    · have h2 : ¬ p < e := by simpa using h2
      refine ⟨twSt L ord (e + 1), (weak_mk ⟨_, rfl⟩ (by repeat' (first | exact rfl | exact we_rfl rfl | refine ⟨_, _, rfl, ?_, ?_⟩)) rfl rfl rfl (by repeat' (first | exact trivial | exact we_rfl rfl | exact we_int (nxt hlt (by omega)) | refine ⟨⟨_, rfl, ?_⟩, ?_⟩))), L.length - (e + 1), by omega, e + 1, rfl, by omega, fun i j x hi hj hx hjx => ?_, rfl⟩
      by_cases hie : i = e
      · subst hie
        rw [hs] at hx
        simp only [Option.some.injEq] at hx
        subst hx
        have := hT.fst q p j s hq hp hjx
        omega
      · exact hinv i j x (by omega) hj hx hjx
  · have hge : e = L.length := by
      have : ¬ e < L.length := by simpa [hN] using h
      omega
    subst hge
    refine ⟨-1, rfl, ⟨fun h3 => by omega, fun h3 => ?_⟩⟩
    exact absurd (nodup_of fun i j x hij hi hj => hinv i j x (List.getElem?_eq_some_iff.1 hi).1 hij hi hj) h3
end Go.Proofs.YtmphiikdhifhjaaGreat
set_option maxRecDepth 100000
namespace Go.Proofs.YtmphiikdhifhjaaGreat
open Go Go.RowKit Dv Tryz

/-- The same words, but for places. -/
def sameWds : List Wd → List Wd → Bool
  | [], [] => true
  | x :: r, y :: s => decide (x.s = y.s) && sameWds r s
  | _, _ => false

theorem sameWds_len : ∀ {a b : List Wd}, a.length ≠ b.length → sameWds a b = false
  | [], [], h => (h rfl).elim
  | x :: r, y :: s, h => by
    have : r.length ≠ s.length := by simpa using h
    simp [sameWds, sameWds_len this]
  | [], y :: s, _ => rfl
  | x :: r, [], _ => rfl

abbrev wordsSt (a b : List Wd) (e : Nat) : St :=
  ⟨[(0, ⟨[], .sl 2 (dWds a) none⟩), (1, ⟨[], .sl 2 (dWds b) none⟩), (5, ⟨[], .v (.int .i64 e)⟩)], [], []⟩

theorem words15_spec (a b : List Wd) (hs : a.length ≤ 4611686018427387904) :
    EvP Tryz.prog 119 [.sl 2 (dWds a) none, .sl 2 (dWds b) none] (.v (.bool (sameWds a b))) := by
  refine ev_go (P := Tryz.prog) tt tt_ok 5000 28 [.tmp 4] Tryz.func119 rfl Tryz.ntmps119 rfl (Nat.le_of_ble_eq_true rfl) (fun E9 w9 hn9 hm9 => ?_)
  refine br (fun h => ?_) (fun h => ?_)
  · have hne : a.length ≠ b.length := by have := h; simp [dWds_len] at this; omega
    exact congrArg (fun b => DV.v (.bool b)) (sameWds_len hne).symm
  · have hl : a.length = b.length := by have := h; simp [dWds_len] at this; omega
    refine loop_i (fun j st => ∃ e : Nat, st = wordsSt a b e ∧ e ≤ a.length ∧ sameWds a b = sameWds (a.drop e) (b.drop e) ∧ j = a.length - e) a.length
      (wordsSt a b 0) (weak_mk ⟨_, rfl⟩ (by repeat' (first | exact rfl | exact we_rfl rfl | refine ⟨_, _, rfl, ?_, ?_⟩)) rfl rfl rfl (by repeat' (first | exact trivial | exact we_rfl rfl | refine ⟨⟨_, rfl, ?_⟩, ?_⟩))) ⟨0, rfl, by omega, rfl, by omega⟩ ?_
    rintro j st ⟨e, rfl, he, heq, rfl⟩
    refine br (fun h => ?_) (fun h => ?_)
    · have hlt : e < a.length := by simpa [dWds_len] using h
      obtain ⟨x, hx⟩ : ∃ x, a[e]? = some x := ⟨_, List.getElem?_eq_getElem hlt⟩
      obtain ⟨y, hy⟩ : ∃ y, b[e]? = some y := ⟨_, List.getElem?_eq_getElem (hl ▸ hlt)⟩
      rw [drop_cons hx, drop_cons hy] at heq
      refine drawG_i (fun _ => false) mo (by decide +kernel) ?_
      refine ⟨dWd x, ⟨by omega, dWds_get hx⟩, dWd y, ⟨by omega, dWds_get hy⟩, ?_⟩
      refine br (fun h => ?_) (fun h => ?_)
      · have hne : x.s ≠ y.s := by simpa using h
        refine (congrArg (fun b => DV.v (.bool b)) ?_ : _ = _)
        rw [heq]
        simp [sameWds, hne]
      · have hne : x.s = y.s := by simpa using h
        refine ⟨wordsSt a b (e + 1), (weak_mk ⟨_, rfl⟩ (by repeat' (first | exact rfl | exact we_rfl rfl | refine ⟨_, _, rfl, ?_, ?_⟩)) rfl rfl rfl (by repeat' (first | exact trivial | exact we_rfl rfl | exact we_int (nxt hlt (by omega)) | refine ⟨⟨_, rfl, ?_⟩, ?_⟩))), a.length - (e + 1), by omega, e + 1, rfl, by omega, ?_, rfl⟩
        rw [heq]
        simp [sameWds, hne]
    · have hge : e = a.length := by have := h; simp [dWds_len] at this; omega
      refine (congrArg (fun b => DV.v (.bool b)) ?_ : _ = _)
      rw [heq, hge, hl]
      simp [sameWds]
      rw [← hl]
      simp [sameWds]

def plainP (p q : Ph) : Bool := (p.bare == q.bare) && decide (p.wide = q.wide) && sameWds p.label q.label && decide (p.ck = q.ck) && decide (p.cn = q.cn) && sameWds p.cl q.cl

theorem plain15_spec (p q : Ph) (tl tl' : List DV) (hs : p.wt ≤ 4611686018427387904) (ht : CcL [] 0 0 0 tl tl) (ht' : CcL [] 0 0 0 tl' tl') :
    EvP Tryz.prog 66 [.agg (dPh p tl), .agg (dPh q tl')] (.v (.bool (plainP p q))) := by
  refine ev_go (P := Tryz.prog) tt tt_ok 5000 51 [.tmp 4] Tryz.func66 rfl Tryz.ntmps66 rfl (Nat.le_of_ble_eq_true rfl) (fun E9 w9 hn9 hm9 => ?_)
  have h1 := wdsWt_len p.label
  have h2 := wdsWt_len p.cl
  simp only [Ph.wt] at hs
  refine br (fun h => ?_) (fun h => ?_)
  · refine call_p (enters_of Tryz.func119 (by decide +kernel) rfl) (words15_spec p.label q.label (by omega)) (by repeat' (first | exact rfl | exact trivial | exact Or.inr (Or.inl ⟨_, rfl⟩) | exact Or.inr ⟨_, rfl⟩ | exact Or.inl ⟨rfl, rfl⟩ | exact Or.inl rfl | refine Or.inr ⟨_, _, rfl, Nat.zero_le _, rfl, ?_⟩ | refine ⟨_, _, rfl, ?_, ?_⟩ | refine ⟨_, rfl, ?_⟩ | refine Or.inr (Or.inr (Or.inr ⟨_, _, rfl, ?_⟩)) | exact Or.inl rfl | refine Or.inr ?_)) rfl ?_
    refine br (fun h2 => ?_) (fun h2 => ?_)
    · refine call_p (enters_of Tryz.func119 (by decide +kernel) rfl) (words15_spec p.cl q.cl (by omega)) (by repeat' (first | exact rfl | exact trivial | exact Or.inr (Or.inl ⟨_, rfl⟩) | exact Or.inr ⟨_, rfl⟩ | exact Or.inl ⟨rfl, rfl⟩ | exact Or.inl rfl | refine Or.inr ⟨_, _, rfl, Nat.zero_le _, rfl, ?_⟩ | refine ⟨_, _, rfl, ?_, ?_⟩ | refine ⟨_, rfl, ?_⟩ | refine Or.inr (Or.inr (Or.inr ⟨_, _, rfl, ?_⟩)) | exact Or.inl rfl | refine Or.inr ?_)) rfl ?_
      refine (congrArg (fun b => DV.v (.bool b)) ?_ : _ = _)
      simp [pickB_and] at h h2
      simp [plainP, pickB_and, h, h2]
    · refine (congrArg (fun b => DV.v (.bool b)) ?_ : _ = _)
      simp [pickB_and] at h h2
      simp [plainP, pickB_and, h]
      grind
  · refine (congrArg (fun b => DV.v (.bool b)) ?_ : _ = _)
    simp [pickB_and] at h
    simp [plainP]
    grind

/-- The same, but for places and parts. -/
def sameHd (h k : Hd) : Bool := decide (h.kind = k.kind) && decide (h.lo = k.lo) && decide (h.hi = k.hi) && decide (h.most = k.most) && decide (h.name.s = k.name.s) && sameWds h.names k.names

mutual
def sameTy : Ty → Ty → Bool
  | .mk h ps, .mk k qs => sameHd h k && samePts ps qs
def samePts : Pts → Pts → Bool
  | .nil, .nil => true
  | .cons p t r, .cons q u s => decide (p.name.s = q.name.s) && plainP p q && sameTy t u && samePts r s
  | _, _ => false
end

theorem samePts_len : ∀ {a b : Pts}, a.len ≠ b.len → samePts a b = false
  | .nil, .nil, h => (h rfl).elim
  | .cons p t r, .cons q u s, h => by
    have : r.len ≠ s.len := by simpa [Pts.len] using h
    simp [samePts, samePts_len this]
  | .nil, .cons _ _ _, _ => by simp [samePts]
  | .cons _ _ _, .nil, _ => by simp [samePts]

def maskHd (h : Hd) : Hd :=
  ⟨h.kind, 0, if h.kind = 2 then h.lo else 0, if h.kind = 2 then h.hi else 0, if h.kind = 3 ∨ h.kind = 5 then h.most else 0, if h.kind = 4 then h.names else [], if h.kind = 9 then h.name else ⟨emptyB, 0⟩⟩
def mask : Ty → Ty
  | .mk h ps => .mk (maskHd h) (if 4 < h.kind ∧ h.kind < 9 then ps else .nil)

end Go.Proofs.YtmphiikdhifhjaaGreat
set_option maxRecDepth 100000
namespace Go.Proofs.YtmphiikdhifhjaaGreat
open Go Go.RowKit Dv Tryz

theorem cc_ty (bx : List (List DV)) (N n m : Nat) (t : Ty) : CcL bx N n m (dTy t) (dTy t) := by
  obtain ⟨h, ps⟩ := t
  simp only [dTy, CcL, Cc]
  repeat' (first | exact rfl | exact trivial | exact Or.inr (Or.inl ⟨_, rfl⟩) | refine ⟨_, _, rfl, ?_, ?_⟩)

abbrev sameSt (a b : Ty) (e : Nat) : St :=
  ⟨[(2, ⟨[], .loc 0 0⟩), (3, ⟨[], .loc 1 0⟩), (5, ⟨[], .v (.int .i64 e)⟩)], [dTy a, dTy b], []⟩

theorem same15_spec : ∀ (n : Nat) (a b : Ty), a.wt ≤ n → a.wt ≤ 4611686018427387904 →
    EvP Tryz.prog 117 [.agg (dTy a), .agg (dTy b)] (.v (.bool (sameTy a b)))
  | 0, a, b, hn, _ => by have := a.wt_pos; omega
  | n + 1, .mk h ps, .mk k qs, hn, hbig => by
    simp only [Ty.wt, Hd.wt] at hn hbig
    have hl := wdsWt_len h.names
    have hpl := ps.wt_len
    refine ev_go (P := Tryz.prog) tt tt_ok 5000 98 [.tmp 4] Tryz.func117 rfl Tryz.ntmps117 rfl (Nat.le_of_ble_eq_true rfl) (fun E9 w9 hn9 hm9 => ?_)
    refine br (fun hA => ?_) (fun hA => ?_)
    · simp [pickB_or] at hA
      obtain ⟨⟨⟨⟨e1, e2⟩, e3⟩, e4⟩, e5⟩ := hA
      refine call_p (enters_of Tryz.func119 (by decide +kernel) rfl) (words15_spec h.names k.names (by omega)) (by repeat' (first | exact rfl | exact trivial | exact Or.inr (Or.inl ⟨_, rfl⟩) | exact Or.inr ⟨_, rfl⟩ | exact Or.inl ⟨rfl, rfl⟩ | exact Or.inl rfl | refine Or.inr ⟨_, _, rfl, Nat.zero_le _, rfl, ?_⟩ | refine ⟨_, _, rfl, ?_, ?_⟩ | refine ⟨_, rfl, ?_⟩ | refine Or.inr (Or.inr (Or.inr ⟨_, _, rfl, ?_⟩)) | exact Or.inl rfl | refine Or.inr ?_)) rfl ?_
      refine br (fun hB => ?_) (fun hB => ?_)
      · refine (congrArg (fun b => DV.v (.bool b)) ?_ : _ = _)
        simp [pickB_or, e1, e2, e3, e4, e5, dPts_len] at hB
        simp only [sameTy, sameHd]
        rcases hB with hB | hB
        · simp [hB]
        · have : ps.len ≠ qs.len := by omega
          simp [samePts_len this]
      · simp [pickB_or, e1, e2, e3, e4, e5, dPts_len] at hB
        obtain ⟨e6, e7⟩ := hB
        have e8 : ps.len = qs.len := by omega
        have eh : sameTy (.mk h ps) (.mk k qs) = samePts ps qs := by simp [sameTy, sameHd, e1, e2, e3, e4, e5, e6]
        refine loop_i (fun j st => ∃ e : Nat, st = sameSt (.mk h ps) (.mk k qs) e ∧ e ≤ ps.len ∧ samePts ps qs = samePts (ps.drop e) (qs.drop e) ∧ j = ps.len - e) ps.len
          (sameSt (.mk h ps) (.mk k qs) 0) (weak_mk ⟨_, rfl⟩ (by repeat' (first | exact rfl | exact we_rfl rfl | refine ⟨_, _, rfl, ?_, ?_⟩)) rfl rfl rfl (by repeat' (first | exact trivial | exact we_rfl rfl | refine ⟨⟨_, rfl, ?_⟩, ?_⟩))) ⟨0, rfl, by omega, rfl, by omega⟩ ?_
        rintro j st ⟨e, rfl, he, heq, rfl⟩
        refine br (fun hL => ?_) (fun hL => ?_)
        · have hlt : e < ps.len := by simpa [dPts_len] using hL
          obtain ⟨p, t, hx⟩ := Pts.get_lt hlt
          obtain ⟨q, u, hy⟩ := Pts.get_lt (e8 ▸ hlt)
          rw [Pts.drop_cons hx, Pts.drop_cons hy] at heq
          have hwt := Pts.wt_mem (List.mem_of_getElem? hx)
          obtain ⟨t, ts⟩ := t
          obtain ⟨u, us⟩ := u
          apply drawG_two (fun _ => false) 10 11 [0, 1, 2, 3, 4, 5, 6, 7, 8, 9, 10, 11, 12, 13] [0, 1, 2, 3, 4, 5, 6, 7, 8, 9, 11, 10, 12, 13] 2 3 mo (by decide +kernel)
          · refine ⟨_, ⟨by omega, dPts_get hx⟩, _, ⟨by omega, dPts_get hy⟩, ?_⟩
            refine (?_ : @Eq St _ _)
            exact rfl
          · refine ⟨_, ⟨by omega, dPts_get hx⟩, _, ⟨by omega, dPts_get hy⟩, ?_⟩
            refine (⟨rfl, rfl, ?_⟩ : _ ∧ _ ∧ _)
            repeat' (first | exact trivial | refine ⟨rfl, ?_⟩)
          · rfl
          refine br (fun hC => ?_) (fun hC => ?_)
          · have hC : p.name.s = q.name.s := by simpa using hC
            refine call_p (enters_of Tryz.func66 (by decide +kernel) rfl) (plain15_spec p q (dTy (.mk t ts)) (dTy (.mk u us)) (by omega) (cc_ty _ _ _ _ _) (cc_ty _ _ _ _ _)) (by repeat' (first | exact rfl | exact trivial | exact Or.inr (Or.inl ⟨_, rfl⟩) | exact Or.inr ⟨_, rfl⟩ | exact Or.inl ⟨rfl, rfl⟩ | exact Or.inl rfl | refine Or.inr ⟨_, _, rfl, Nat.zero_le _, rfl, ?_⟩ | refine ⟨_, _, rfl, ?_, ?_⟩ | refine ⟨_, rfl, ?_⟩ | refine Or.inr (Or.inr (Or.inr ⟨_, _, rfl, ?_⟩)) | exact Or.inl rfl | refine Or.inr ?_)) rfl ?_
            refine br (fun hD => ?_) (fun hD => ?_)
            · have hD : plainP p q = true := by simpa [pickB_or, hC] using hD
              refine call_p (enters_of Tryz.func117 (by decide +kernel) rfl) (same15_spec n (.mk t ts) (.mk u us) (by omega) (by omega)) (by repeat' (first | exact rfl | exact trivial | exact Or.inr (Or.inl ⟨_, rfl⟩) | exact Or.inr ⟨_, rfl⟩ | exact Or.inl ⟨rfl, rfl⟩ | exact Or.inl rfl | refine Or.inr ⟨_, _, rfl, Nat.zero_le _, rfl, ?_⟩ | refine ⟨_, _, rfl, ?_, ?_⟩ | refine ⟨_, rfl, ?_⟩ | refine Or.inr (Or.inr (Or.inr ⟨_, _, rfl, ?_⟩)) | exact Or.inl rfl | refine Or.inr ?_)) rfl ?_
              refine br (fun hE => ?_) (fun hE => ?_)
              · refine (congrArg (fun b => DV.v (.bool b)) ?_ : _ = _)
                rw [eh, heq]
                simp [pickB_or, hC, hD] at hE
                simp [samePts, hE]
              · simp [pickB_or, hC, hD] at hE
                refine ⟨sameSt (.mk h ps) (.mk k qs) (e + 1), (weak_mk ⟨_, rfl⟩ (by repeat' (first | exact rfl | exact we_rfl rfl | refine ⟨_, _, rfl, ?_, ?_⟩)) rfl rfl rfl (by repeat' (first | exact trivial | exact we_rfl rfl | exact we_int (nxt hlt (by omega)) | refine ⟨⟨_, rfl, ?_⟩, ?_⟩))), ps.len - (e + 1), by omega, e + 1, rfl, by omega, ?_, rfl⟩
                rw [heq]
                simp [samePts, hC, hD, hE]
            · have hD : plainP p q = false := by simpa [pickB_or, hC] using hD
              refine (congrArg (fun b => DV.v (.bool b)) ?_ : _ = _)
              rw [eh, heq]
              simp [samePts, hD]
          · have hC : p.name.s ≠ q.name.s := by simpa using hC
            refine (congrArg (fun b => DV.v (.bool b)) ?_ : _ = _)
            rw [eh, heq]
            simp [samePts, hC]
        · have hge : e = ps.len := by have := hL; simp [dPts_len] at this; omega
          refine (congrArg (fun b => DV.v (.bool b)) ?_ : _ = _)
          rw [eh, heq, hge, Pts.drop_len, e8, Pts.drop_len]
          simp [samePts]
    · refine (congrArg (fun b => DV.v (.bool b)) ?_ : _ = _)
      simp [pickB_or] at hA
      simp only [sameTy, sameHd]
      grind

theorem zero15_spec (t : Ty) (hbig : t.wt ≤ 4611686018427387904) :
    EvP Tryz.prog 121 [.agg (dTy t)] (.v (.bool (sameTy t zeroTy))) := by
  obtain ⟨h, ps⟩ := t
  refine ev_go (P := Tryz.prog) tt tt_ok 5000 6 [.tmp 2] Tryz.func121 rfl Tryz.ntmps121 rfl (Nat.le_of_ble_eq_true rfl) (fun E9 w9 hn9 hm9 => ?_)
  refine call_p (enters_of Tryz.func117 (by decide +kernel) rfl) (same15_spec _ (.mk h ps) zeroTy (Nat.le_refl _) hbig) (by repeat' (first | exact rfl | exact trivial | exact Or.inr (Or.inl ⟨_, rfl⟩) | exact Or.inr ⟨_, rfl⟩ | exact Or.inl ⟨rfl, rfl⟩ | exact Or.inl rfl | refine Or.inr ⟨_, _, rfl, Nat.zero_le _, rfl, ?_⟩ | refine ⟨_, _, rfl, ?_, ?_⟩ | refine ⟨_, rfl, ?_⟩ | refine Or.inr (Or.inr (Or.inr ⟨_, _, rfl, ?_⟩)) | exact Or.inl rfl | refine Or.inr ?_)) rfl ?_
  exact (rfl : _ = _)

theorem own15_spec (t : Ty) (hbig : t.wt ≤ 4611686018427387904) :
    EvP Tryz.prog 63 [.agg (dTy t)] (.v (.bool (sameTy t (mask t)))) := by
  obtain ⟨h, ps⟩ := t
  have key : ∀ (h' : Hd) (ps' : Pts), maskHd h = h' → (if 4 < h.kind ∧ h.kind < 9 then ps else .nil) = ps' →
      EvP Tryz.prog 117 [.agg (dTy (.mk h ps)), .agg (dTy (.mk h' ps'))] (.v (.bool (sameTy (.mk h ps) (mask (.mk h ps))))) := by
    rintro h' ps' rfl rfl
    exact same15_spec _ (.mk h ps) _ (Nat.le_refl _) hbig
  obtain ⟨kind, at', lo, hi, most, names, name⟩ := h
  by_cases hr : 2 ≤ kind ∧ kind ≤ 9
  · obtain hk | hk | hk | hk | hk | hk | hk | hk : kind = 2 ∨ kind = 3 ∨ kind = 4 ∨ kind = 5 ∨ kind = 6 ∨ kind = 7 ∨ kind = 8 ∨ kind = 9 := by omega
    · subst hk
      refine ev_go (P := Tryz.prog) tt tt_ok 5000 53 [.tmp 2] Tryz.func63 rfl Tryz.ntmps63 rfl (Nat.le_of_ble_eq_true rfl) (fun E9 w9 hn9 hm9 => ?_)
      refine call_p (enters_of Tryz.func117 (by decide +kernel) rfl) (key ⟨2, 0, lo, hi, 0, [], ⟨emptyB, 0⟩⟩ .nil (by simp [maskHd]) (by simp)) (by repeat' (first | exact rfl | exact trivial | exact Or.inr (Or.inl ⟨_, rfl⟩) | exact Or.inr ⟨_, rfl⟩ | exact Or.inl ⟨rfl, rfl⟩ | exact Or.inl rfl | refine Or.inr ⟨_, _, rfl, Nat.zero_le _, rfl, ?_⟩ | refine ⟨_, _, rfl, ?_, ?_⟩ | refine ⟨_, rfl, ?_⟩ | refine Or.inr (Or.inr (Or.inr ⟨_, _, rfl, ?_⟩)) | exact Or.inl rfl | refine Or.inr ?_)) rfl ?_
      exact (rfl : _ = _)
    · subst hk
      refine ev_go (P := Tryz.prog) tt tt_ok 5000 53 [.tmp 2] Tryz.func63 rfl Tryz.ntmps63 rfl (Nat.le_of_ble_eq_true rfl) (fun E9 w9 hn9 hm9 => ?_)
      refine call_p (enters_of Tryz.func117 (by decide +kernel) rfl) (key ⟨3, 0, 0, 0, most, [], ⟨emptyB, 0⟩⟩ .nil (by simp [maskHd]) (by simp)) (by repeat' (first | exact rfl | exact trivial | exact Or.inr (Or.inl ⟨_, rfl⟩) | exact Or.inr ⟨_, rfl⟩ | exact Or.inl ⟨rfl, rfl⟩ | exact Or.inl rfl | refine Or.inr ⟨_, _, rfl, Nat.zero_le _, rfl, ?_⟩ | refine ⟨_, _, rfl, ?_, ?_⟩ | refine ⟨_, rfl, ?_⟩ | refine Or.inr (Or.inr (Or.inr ⟨_, _, rfl, ?_⟩)) | exact Or.inl rfl | refine Or.inr ?_)) rfl ?_
      exact (rfl : _ = _)
    · subst hk
      refine ev_go (P := Tryz.prog) tt tt_ok 5000 53 [.tmp 2] Tryz.func63 rfl Tryz.ntmps63 rfl (Nat.le_of_ble_eq_true rfl) (fun E9 w9 hn9 hm9 => ?_)
      refine call_p (enters_of Tryz.func117 (by decide +kernel) rfl) (key ⟨4, 0, 0, 0, 0, names, ⟨emptyB, 0⟩⟩ .nil (by simp [maskHd]) (by simp)) (by repeat' (first | exact rfl | exact trivial | exact Or.inr (Or.inl ⟨_, rfl⟩) | exact Or.inr ⟨_, rfl⟩ | exact Or.inl ⟨rfl, rfl⟩ | exact Or.inl rfl | refine Or.inr ⟨_, _, rfl, Nat.zero_le _, rfl, ?_⟩ | refine ⟨_, _, rfl, ?_, ?_⟩ | refine ⟨_, rfl, ?_⟩ | refine Or.inr (Or.inr (Or.inr ⟨_, _, rfl, ?_⟩)) | exact Or.inl rfl | refine Or.inr ?_)) rfl ?_
      exact (rfl : _ = _)
    · subst hk
      refine ev_go (P := Tryz.prog) tt tt_ok 5000 53 [.tmp 2] Tryz.func63 rfl Tryz.ntmps63 rfl (Nat.le_of_ble_eq_true rfl) (fun E9 w9 hn9 hm9 => ?_)
      refine call_p (enters_of Tryz.func117 (by decide +kernel) rfl) (key ⟨5, 0, 0, 0, most, [], ⟨emptyB, 0⟩⟩ ps (by simp [maskHd]) (by simp)) (by repeat' (first | exact rfl | exact trivial | exact Or.inr (Or.inl ⟨_, rfl⟩) | exact Or.inr ⟨_, rfl⟩ | exact Or.inl ⟨rfl, rfl⟩ | exact Or.inl rfl | refine Or.inr ⟨_, _, rfl, Nat.zero_le _, rfl, ?_⟩ | refine ⟨_, _, rfl, ?_, ?_⟩ | refine ⟨_, rfl, ?_⟩ | refine Or.inr (Or.inr (Or.inr ⟨_, _, rfl, ?_⟩)) | exact Or.inl rfl | refine Or.inr ?_)) rfl ?_
      exact (rfl : _ = _)
    · subst hk
      refine ev_go (P := Tryz.prog) tt tt_ok 5000 53 [.tmp 2] Tryz.func63 rfl Tryz.ntmps63 rfl (Nat.le_of_ble_eq_true rfl) (fun E9 w9 hn9 hm9 => ?_)
      refine call_p (enters_of Tryz.func117 (by decide +kernel) rfl) (key ⟨6, 0, 0, 0, 0, [], ⟨emptyB, 0⟩⟩ ps (by simp [maskHd]) (by simp)) (by repeat' (first | exact rfl | exact trivial | exact Or.inr (Or.inl ⟨_, rfl⟩) | exact Or.inr ⟨_, rfl⟩ | exact Or.inl ⟨rfl, rfl⟩ | exact Or.inl rfl | refine Or.inr ⟨_, _, rfl, Nat.zero_le _, rfl, ?_⟩ | refine ⟨_, _, rfl, ?_, ?_⟩ | refine ⟨_, rfl, ?_⟩ | refine Or.inr (Or.inr (Or.inr ⟨_, _, rfl, ?_⟩)) | exact Or.inl rfl | refine Or.inr ?_)) rfl ?_
      exact (rfl : _ = _)
    · subst hk
      refine ev_go (P := Tryz.prog) tt tt_ok 5000 53 [.tmp 2] Tryz.func63 rfl Tryz.ntmps63 rfl (Nat.le_of_ble_eq_true rfl) (fun E9 w9 hn9 hm9 => ?_)
      refine call_p (enters_of Tryz.func117 (by decide +kernel) rfl) (key ⟨7, 0, 0, 0, 0, [], ⟨emptyB, 0⟩⟩ ps (by simp [maskHd]) (by simp)) (by repeat' (first | exact rfl | exact trivial | exact Or.inr (Or.inl ⟨_, rfl⟩) | exact Or.inr ⟨_, rfl⟩ | exact Or.inl ⟨rfl, rfl⟩ | exact Or.inl rfl | refine Or.inr ⟨_, _, rfl, Nat.zero_le _, rfl, ?_⟩ | refine ⟨_, _, rfl, ?_, ?_⟩ | refine ⟨_, rfl, ?_⟩ | refine Or.inr (Or.inr (Or.inr ⟨_, _, rfl, ?_⟩)) | exact Or.inl rfl | refine Or.inr ?_)) rfl ?_
      exact (rfl : _ = _)
    · subst hk
      refine ev_go (P := Tryz.prog) tt tt_ok 5000 53 [.tmp 2] Tryz.func63 rfl Tryz.ntmps63 rfl (Nat.le_of_ble_eq_true rfl) (fun E9 w9 hn9 hm9 => ?_)
      refine call_p (enters_of Tryz.func117 (by decide +kernel) rfl) (key ⟨8, 0, 0, 0, 0, [], ⟨emptyB, 0⟩⟩ ps (by simp [maskHd]) (by simp)) (by repeat' (first | exact rfl | exact trivial | exact Or.inr (Or.inl ⟨_, rfl⟩) | exact Or.inr ⟨_, rfl⟩ | exact Or.inl ⟨rfl, rfl⟩ | exact Or.inl rfl | refine Or.inr ⟨_, _, rfl, Nat.zero_le _, rfl, ?_⟩ | refine ⟨_, _, rfl, ?_, ?_⟩ | refine ⟨_, rfl, ?_⟩ | refine Or.inr (Or.inr (Or.inr ⟨_, _, rfl, ?_⟩)) | exact Or.inl rfl | refine Or.inr ?_)) rfl ?_
      exact (rfl : _ = _)
    · subst hk
      refine ev_go (P := Tryz.prog) tt tt_ok 5000 53 [.tmp 2] Tryz.func63 rfl Tryz.ntmps63 rfl (Nat.le_of_ble_eq_true rfl) (fun E9 w9 hn9 hm9 => ?_)
      refine call_p (enters_of Tryz.func117 (by decide +kernel) rfl) (key ⟨9, 0, 0, 0, 0, [], name⟩ .nil (by simp [maskHd]) (by simp)) (by repeat' (first | exact rfl | exact trivial | exact Or.inr (Or.inl ⟨_, rfl⟩) | exact Or.inr ⟨_, rfl⟩ | exact Or.inl ⟨rfl, rfl⟩ | exact Or.inl rfl | refine Or.inr ⟨_, _, rfl, Nat.zero_le _, rfl, ?_⟩ | refine ⟨_, _, rfl, ?_, ?_⟩ | refine ⟨_, rfl, ?_⟩ | refine Or.inr (Or.inr (Or.inr ⟨_, _, rfl, ?_⟩)) | exact Or.inl rfl | refine Or.inr ?_)) rfl ?_
      exact (rfl : _ = _)
  · refine ev_go (P := Tryz.prog) tt tt_ok 5000 53 [.tmp 2] Tryz.func63 rfl Tryz.ntmps63 rfl (Nat.le_of_ble_eq_true rfl) (fun E9 w9 hn9 hm9 => ?_)
    refine br (fun c => ?_) (fun c1 => ?_)
    · have : kind = 2 := of_decide_eq_true c
      omega
    refine br (fun c => ?_) (fun c2 => ?_)
    · simp [pickB_or] at c; omega
    refine br (fun c => ?_) (fun c3 => ?_)
    · have : kind = 4 := of_decide_eq_true c
      omega
    refine br (fun c => ?_) (fun c4 => ?_)
    · simp [pickB_and] at c; omega
    refine br (fun c => ?_) (fun c5 => ?_)
    · have : kind = 9 := of_decide_eq_true c
      omega
    have e1 : ¬ kind = 2 := of_decide_eq_false c1
    have e3 : ¬ kind = 4 := of_decide_eq_false c3
    have e5 : ¬ kind = 9 := of_decide_eq_false c5
    simp [pickB_or, pickB_and] at c2 c4
    refine call_p (enters_of Tryz.func117 (by decide +kernel) rfl) (key ⟨kind, 0, 0, 0, 0, [], ⟨emptyB, 0⟩⟩ .nil (by simp [maskHd, e1, c2, e3, e5]) (by simp; omega)) (by repeat' (first | exact rfl | exact trivial | exact Or.inr (Or.inl ⟨_, rfl⟩) | exact Or.inr ⟨_, rfl⟩ | exact Or.inl ⟨rfl, rfl⟩ | exact Or.inl rfl | refine Or.inr ⟨_, _, rfl, Nat.zero_le _, rfl, ?_⟩ | refine ⟨_, _, rfl, ?_, ?_⟩ | refine ⟨_, rfl, ?_⟩ | refine Or.inr (Or.inr (Or.inr ⟨_, _, rfl, ?_⟩)) | exact Or.inl rfl | refine Or.inr ?_)) rfl ?_
    exact (rfl : _ = _)
end Go.Proofs.YtmphiikdhifhjaaGreat
set_option maxRecDepth 100000
namespace Go.Proofs.YtmphiikdhifhjaaGreat
open Go Go.RowKit Dv Tryz

/-- A fault: what is wrong, and where. -/
abbrev Ft : Type := Int × Int
def Ft.d (f : Ft) : DV := .agg [.v (.int .i64 f.1), .v (.int .i64 f.2)]

/-- The first word that is no name. -/
def badWd : List Wd → Ft
  | [] => (0, 0)
  | w :: r => if nameOK w.s then badWd r else (9, w.a)
def labelF (l : List Wd) : Ft :=
  if l.length ≤ 32 then badWd l else (8, ((l[32]?).getD (⟨emptyB, 0⟩ : Wd)).a)

abbrev labelSt (l : List Wd) (e : Nat) : St :=
  ⟨[(0, ⟨[], .sl 2 (dWds l) none⟩), (2, ⟨[], .loc 0 0⟩), (3, ⟨[], .v (.int .i64 e)⟩)], [[.v (.int .i64 0), .v (.int .i64 0)]], []⟩

theorem label15_spec (l : List Wd) (hs : wdsWt l ≤ 4611686018427387904) :
    EvP Tryz.prog 122 [.sl 2 (dWds l) none] (labelF l).d := by
  have hsl := wdsWt_len l
  refine ev_go (P := Tryz.prog) tt tt_ok 5000 32 [.cell 2 33] Tryz.func122 rfl Tryz.ntmps122 rfl (Nat.le_of_ble_eq_true rfl) (fun E9 w9 hn9 hm9 => ?_)
  refine br (fun h => ?_) (fun h => ?_)
  · have hlt : 32 < l.length := by simp [dWds_len] at h; omega
    obtain ⟨x, hx⟩ : ∃ x, l[32]? = some x := ⟨_, List.getElem?_eq_getElem hlt⟩
    have : labelF l = (8, x.a) := by simp [labelF, Nat.not_le.2 hlt, hx]
    refine ⟨dWd x, ⟨by omega, dWds_get hx⟩, _, ?_, rfl⟩
    rw [this]
    exact (by repeat' (first | exact rfl | exact trivial | exact Or.inr (Or.inl ⟨_, rfl⟩) | exact Or.inr ⟨_, rfl⟩ | exact Or.inl ⟨rfl, rfl⟩ | exact Or.inl rfl | refine Or.inr ⟨_, _, rfl, Nat.zero_le _, rfl, ?_⟩ | refine ⟨_, _, rfl, ?_, ?_⟩ | refine ⟨_, rfl, ?_⟩ | refine Or.inr (Or.inr (Or.inr ⟨_, _, rfl, ?_⟩)) | exact Or.inl rfl | refine Or.inr ?_))
  · have hle : l.length ≤ 32 := by simp [dWds_len] at h; omega
    refine loop_i (fun j st => ∃ e : Nat, st = labelSt l e ∧ e ≤ l.length ∧ badWd l = badWd (l.drop e) ∧ j = l.length - e) l.length
      (labelSt l 0) (weak_mk ⟨_, rfl⟩ (by repeat' (first | exact rfl | exact we_rfl rfl | refine ⟨_, _, rfl, ?_, ?_⟩)) rfl rfl rfl (by repeat' (first | exact trivial | exact we_rfl rfl | refine ⟨⟨_, rfl, ?_⟩, ?_⟩))) ⟨0, rfl, by omega, rfl, by omega⟩ ?_
    rintro j st ⟨e, rfl, he, heq, rfl⟩
    refine br (fun hL => ?_) (fun hL => ?_)
    · have hlt : e < l.length := by simpa [dWds_len] using hL
      obtain ⟨x, hx⟩ : ∃ x, l[e]? = some x := ⟨_, List.getElem?_eq_getElem hlt⟩
      rw [drop_cons hx] at heq
      have hxs := wdsWt_mem (List.mem_of_getElem? hx)
      refine ⟨dWd x, ⟨by omega, dWds_get hx⟩, ?_⟩
      refine call_p (enters_of Tryz.func64 (by decide +kernel) rfl) (right8_spec x.s (by omega)) (by repeat' (first | exact rfl | exact trivial | exact Or.inr (Or.inl ⟨_, rfl⟩) | exact Or.inr ⟨_, rfl⟩ | exact Or.inl ⟨rfl, rfl⟩ | exact Or.inl rfl | refine Or.inr ⟨_, _, rfl, Nat.zero_le _, rfl, ?_⟩ | refine ⟨_, _, rfl, ?_, ?_⟩ | refine ⟨_, rfl, ?_⟩ | refine Or.inr (Or.inr (Or.inr ⟨_, _, rfl, ?_⟩)) | exact Or.inl rfl | refine Or.inr ?_)) rfl ?_
      refine br (fun hN => ?_) (fun hN => ?_)
      · have hN : nameOK x.s = false := by simpa using hN
        have : labelF l = (9, x.a) := by simp [labelF, hle, heq, badWd, hN]
        refine ⟨dWd x, ⟨by omega, dWds_get hx⟩, _, ?_, rfl⟩
        rw [this]
        exact (by repeat' (first | exact rfl | exact trivial | exact Or.inr (Or.inl ⟨_, rfl⟩) | exact Or.inr ⟨_, rfl⟩ | exact Or.inl ⟨rfl, rfl⟩ | exact Or.inl rfl | refine Or.inr ⟨_, _, rfl, Nat.zero_le _, rfl, ?_⟩ | refine ⟨_, _, rfl, ?_, ?_⟩ | refine ⟨_, rfl, ?_⟩ | refine Or.inr (Or.inr (Or.inr ⟨_, _, rfl, ?_⟩)) | exact Or.inl rfl | refine Or.inr ?_))
      · have hN : nameOK x.s = true := by simpa using hN
        refine ⟨labelSt l (e + 1), (weak_mk ⟨_, rfl⟩ (by repeat' (first | exact rfl | exact we_rfl rfl | refine ⟨_, _, rfl, ?_, ?_⟩)) rfl rfl rfl (by repeat' (first | exact trivial | exact we_rfl rfl | exact we_int (nxt hlt (by omega)) | refine ⟨⟨_, rfl, ?_⟩, ?_⟩))), l.length - (e + 1), by omega, e + 1, rfl, by omega, ?_, rfl⟩
        rw [heq]
        simp [badWd, hN]
    · have hge : e = l.length := by simp [dWds_len] at hL; omega
      have : labelF l = (0, 0) := by simp [labelF, hle, heq, hge, badWd]
      refine ⟨_, ?_, rfl⟩
      rw [this]
      exact (by repeat' (first | exact rfl | exact trivial | exact Or.inr (Or.inl ⟨_, rfl⟩) | exact Or.inr ⟨_, rfl⟩ | exact Or.inl ⟨rfl, rfl⟩ | exact Or.inl rfl | refine Or.inr ⟨_, _, rfl, Nat.zero_le _, rfl, ?_⟩ | refine ⟨_, _, rfl, ?_, ?_⟩ | refine ⟨_, rfl, ?_⟩ | refine Or.inr (Or.inr (Or.inr ⟨_, _, rfl, ?_⟩)) | exact Or.inl rfl | refine Or.inr ?_))

def dupBefore (l : List Wd) (s : ByteArray) : Bool := l.any fun w => decide (w.s = s)
/-- What is wrong with the i-th name of some, x. -/
def listedF (l : List Wd) (i : Nat) (x : Wd) : Int :=
  if nameOK x.s then (if dupBefore (l.take i) x.s then 10 else 0) else 9

abbrev listedSt (l : List Wd) (i e : Nat) : St :=
  ⟨[(0, ⟨[], .sl 2 (dWds l) none⟩), (1, ⟨[], .v (.int .i64 i)⟩), (5, ⟨[], .v (.int .i64 e)⟩)], [], []⟩

theorem listed15_spec (l : List Wd) (i : Nat) (x : Wd) (hs : wdsWt l ≤ 4611686018427387904) (hx : l[i]? = some x) :
    EvP Tryz.prog 65 [.sl 2 (dWds l) none, .v (.int .i64 i)] (.v (.int .i64 (listedF l i x))) := by
  have hsl := wdsWt_len l
  have hi := (List.getElem?_eq_some_iff.1 hx).1
  have hxs := wdsWt_mem (List.mem_of_getElem? hx)
  refine ev_go (P := Tryz.prog) tt tt_ok 5000 29 [.tmp 4] Tryz.func65 rfl Tryz.ntmps65 rfl (Nat.le_of_ble_eq_true rfl) (fun E9 w9 hn9 hm9 => ?_)
  refine ⟨dWd x, ⟨by omega, dWds_get hx⟩, ?_⟩
  refine call_p (enters_of Tryz.func64 (by decide +kernel) rfl) (right8_spec x.s (by omega)) (by repeat' (first | exact rfl | exact trivial | exact Or.inr (Or.inl ⟨_, rfl⟩) | exact Or.inr ⟨_, rfl⟩ | exact Or.inl ⟨rfl, rfl⟩ | exact Or.inl rfl | refine Or.inr ⟨_, _, rfl, Nat.zero_le _, rfl, ?_⟩ | refine ⟨_, _, rfl, ?_, ?_⟩ | refine ⟨_, rfl, ?_⟩ | refine Or.inr (Or.inr (Or.inr ⟨_, _, rfl, ?_⟩)) | exact Or.inl rfl | refine Or.inr ?_)) rfl ?_
  refine br (fun hN => ?_) (fun hN => ?_)
  · have hN : nameOK x.s = false := by simpa using hN
    refine (congrArg (fun z => DV.v (.int .i64 z)) ?_ : _ = _)
    simp [listedF, hN]
  · have hN : nameOK x.s = true := by simpa using hN
    refine loop_i (fun j st => ∃ e : Nat, st = listedSt l i e ∧ e ≤ i ∧ dupBefore (l.take e) x.s = false ∧ j = i - e) i
      (listedSt l i 0) (weak_mk ⟨_, rfl⟩ (by repeat' (first | exact rfl | exact we_rfl rfl | refine ⟨_, _, rfl, ?_, ?_⟩)) rfl rfl rfl (by repeat' (first | exact trivial | exact we_rfl rfl | refine ⟨⟨_, rfl, ?_⟩, ?_⟩))) ⟨0, rfl, by omega, rfl, by omega⟩ ?_
    rintro j st ⟨e, rfl, he, heq, rfl⟩
    refine br (fun hL => ?_) (fun hL => ?_)
    · have hlt : e < i := by simpa using hL
      obtain ⟨y, hy⟩ : ∃ y, l[e]? = some y := ⟨_, List.getElem?_eq_getElem (by omega)⟩
      refine drawG_i (fun _ => false) mo (by decide +kernel) ?_
      refine ⟨dWd y, ⟨by omega, dWds_get hy⟩, dWd x, ⟨by omega, dWds_get hx⟩, ?_⟩
      refine br (fun hE => ?_) (fun hE => ?_)
      · have hE : y.s = x.s := by simpa using hE
        refine (congrArg (fun z => DV.v (.int .i64 z)) ?_ : _ = _)
        have : dupBefore (l.take i) x.s = true := by
          simp only [dupBefore, List.any_eq_true]
          exact ⟨y, List.mem_take_iff_getElem.2 ⟨e, by omega, (List.getElem?_eq_some_iff.1 hy).2⟩, by simpa using hE⟩
        simp [listedF, hN, this]
      · have hE : ¬ y.s = x.s := by simpa using hE
        refine ⟨listedSt l i (e + 1), (weak_mk ⟨_, rfl⟩ (by repeat' (first | exact rfl | exact we_rfl rfl | refine ⟨_, _, rfl, ?_, ?_⟩)) rfl rfl rfl (by repeat' (first | exact trivial | exact we_rfl rfl | exact we_int (nxt hlt (by omega)) | refine ⟨⟨_, rfl, ?_⟩, ?_⟩))), i - (e + 1), by omega, e + 1, rfl, by omega, ?_, rfl⟩
        rw [List.take_add_one, hy]
        simp only [dupBefore, List.any_append] at heq ⊢
        simp [heq, hE]
    · have hge : e = i := by have := of_decide_eq_false hL; omega
      refine (congrArg (fun z => DV.v (.int .i64 z)) ?_ : _ = _)
      subst hge
      simp [listedF, hN, heq]

/-- The names of parts. -/
def pNames : Pts → List Wd
  | .nil => []
  | .cons p _ r => p.name :: pNames r

theorem pNames_len : ∀ ps : Pts, (pNames ps).length = ps.len
  | .nil => rfl
  | .cons p t r => by simp [pNames, Pts.len, pNames_len r]
theorem pNames_get : ∀ {ps : Pts} {j : Nat} {p : Ph} {t : Ty}, ps.toList[j]? = some (p, t) → (pNames ps)[j]? = some p.name
  | .nil, j, p, t, h => by simp [Pts.toList] at h
  | .cons q u r, 0, p, t, h => by
    simp only [Pts.toList, List.getElem?_cons_zero, Option.some.injEq, Prod.mk.injEq] at h
    obtain ⟨rfl, rfl⟩ := h
    simp [pNames]
  | .cons q u r, j + 1, p, t, h => by
    simp only [Pts.toList, List.getElem?_cons_succ] at h
    simp only [pNames, List.getElem?_cons_succ]
    exact pNames_get h
theorem pNames_wt : ∀ ps : Pts, wdsWt (pNames ps) ≤ ps.wt
  | .nil => Nat.le_refl _
  | .cons p t r => by
    have := pNames_wt r
    simp only [pNames, wdsWt, Pts.wt, Ph.wt] at this ⊢
    omega

abbrev namesSt (ps : Pts) (l : List Wd) (n e : Nat) : St :=
  ⟨[(0, ⟨[], .sl 18 (dPts ps) none⟩), (3, ⟨[], .sl 2 (dWds l) (some 0)⟩), (4, ⟨[], .v (.int .i64 e)⟩)], [], [⟨n, 25, 2, none⟩]⟩

theorem names15_spec (ps : Pts) (hs : ps.wt ≤ 1099511627776) : EvP Tryz.prog 120 [.sl 18 (dPts ps) none] (.sl 2 (dWds (pNames ps)) none) := by
  have hpl := ps.wt_len
  refine ev_go (P := Tryz.prog) tt tt_ok 5000 20 [.tmp 2] Tryz.func120 rfl Tryz.ntmps120 rfl (Nat.le_of_ble_eq_true rfl) (fun E9 w9 hn9 hm9 => ?_)
  refine loop_i (fun j st => ∃ (e : Nat), st = namesSt ps ((pNames ps).take e) e e ∧ e ≤ ps.len ∧ j = ps.len - e) ps.len
    (namesSt ps [] 0 0) (weak_tok ⟨0, 25, 2, none⟩ rfl ⟨_, rfl⟩ rfl (by repeat' (first | exact rfl | exact we_rfl rfl | refine ⟨_, _, rfl, ?_, ?_⟩)) rfl rfl (by repeat' (first | exact trivial | exact we_rfl rfl | exact we_rfl rfl | exact we_tok (Nat.le_refl _) rfl | refine ⟨⟨_, rfl, ?_⟩, ?_⟩))) ⟨0, by simp, by omega, by omega⟩ ?_
  rintro j st ⟨e, rfl, he, rfl⟩
  refine br (fun hL => ?_) (fun hL => ?_)
  · have hlt : e < ps.len := by simpa [dPts_len] using hL
    obtain ⟨p, t, hx⟩ := Pts.get_lt hlt
    refine ⟨_, ⟨by omega, dPts_get hx⟩, ?_⟩
    refine ⟨by simp [dWds_len, pNames_len]; omega, ⟨by simp [dWds_len, pNames_len, maxLen]; omega, by simp [dWds_len, pNames_len]; omega⟩, ?_⟩
    refine ⟨namesSt ps ((pNames ps).take (e + 1)) (e + 1) (e + 1), (weak_mk ⟨_, rfl⟩ (by repeat' (first | exact rfl | exact we_rfl rfl | refine ⟨_, _, rfl, ?_, ?_⟩)) rfl rfl rfl (by repeat' (first | exact trivial | exact we_rfl rfl | exact we_int (nxt hlt (by omega)) | exact we_sl (dWds_snoc (pNames_get hx)) rfl | refine ⟨⟨_, rfl, ?_⟩, ?_⟩))), ps.len - (e + 1), by omega, e + 1, rfl, by omega, rfl⟩
  · have hge : e = ps.len := by simp [dPts_len] at hL; omega
    rw [hge, List.take_of_length_le (by rw [pNames_len]; omega)]
    exact ⟨_, (by repeat' (first | exact rfl | exact trivial | exact Or.inr (Or.inl ⟨_, rfl⟩) | exact Or.inr ⟨_, rfl⟩ | exact Or.inl ⟨rfl, rfl⟩ | exact Or.inl rfl | refine Or.inr ⟨_, _, rfl, Nat.zero_le _, rfl, ?_⟩ | refine ⟨_, _, rfl, ?_, ?_⟩ | refine ⟨_, rfl, ?_⟩ | refine Or.inr (Or.inr (Or.inr ⟨_, _, rfl, ?_⟩)) | exact Or.inl rfl | refine Or.inr ?_)), rfl⟩

mutual
/-- How many types, but for those of Bare parts. -/
def Ty.cnt : Ty → Nat
  | .mk _ ps => 1 + ps.cnt
def Pts.cnt : Pts → Nat
  | .nil => 0
  | .cons p t r => (if p.bare then 0 else t.cnt) + r.cnt
end
mutual
def Ty.deep : Ty → Nat
  | .mk _ ps => ps.deep + 1
def Pts.deep : Pts → Nat
  | .nil => 0
  | .cons p t r => max (if p.bare then 0 else t.deep) r.deep
end

mutual
theorem Ty.cnt_wt : ∀ t : Ty, t.cnt ≤ t.wt
  | .mk h ps => by have := Pts.cnt_wt ps; simp only [Ty.cnt, Ty.wt, Hd.wt]; omega
theorem Pts.cnt_wt : ∀ ps : Pts, ps.cnt ≤ ps.wt
  | .nil => Nat.le_refl _
  | .cons p t r => by
    have := Ty.cnt_wt t
    have := Pts.cnt_wt r
    simp only [Pts.cnt, Pts.wt]
    split <;> omega
end
mutual
theorem Ty.deep_wt : ∀ t : Ty, t.deep ≤ t.wt
  | .mk h ps => by have := Pts.deep_wt ps; simp only [Ty.deep, Ty.wt, Hd.wt]; omega
theorem Pts.deep_wt : ∀ ps : Pts, ps.deep ≤ ps.wt
  | .nil => Nat.le_refl _
  | .cons p t r => by
    have := Ty.deep_wt t
    have := Pts.deep_wt r
    simp only [Pts.deep, Pts.wt]
    split <;> omega
end

abbrev sizeSt (t : Ty) (e n d : Nat) : St :=
  ⟨[(1, ⟨[], .loc 0 0⟩), (4, ⟨[], .v (.int .i64 n)⟩), (5, ⟨[], .v (.int .i64 d)⟩), (6, ⟨[], .v (.int .i64 e)⟩)], [dTy t], []⟩

theorem size15_spec : ∀ (k : Nat) (t : Ty), t.wt ≤ k → t.wt ≤ 1099511627776 →
    EvP Tryz.prog 14 [.agg (dTy t)] (.tup [.v (.int .i64 t.cnt), .v (.int .i64 t.deep)])
  | 0, t, hn, _ => by have := t.wt_pos; omega
  | k + 1, .mk h ps, hn, hbig => by
    simp only [Ty.wt, Hd.wt] at hn hbig
    have hpl := ps.wt_len
    have hc := ps.cnt_wt
    have hdp := ps.deep_wt
    refine ev_go (P := Tryz.prog) tt tt_ok 5000 42 [.tmp 2, .tmp 3] Tryz.func14 rfl Tryz.ntmps14 rfl (Nat.le_of_ble_eq_true rfl) (fun E9 w9 hn9 hm9 => ?_)
    refine loop_i (fun j st => ∃ (e n d : Nat), st = sizeSt (.mk h ps) e n d ∧ e ≤ ps.len ∧ n + (ps.drop e).cnt = 1 + ps.cnt ∧ max d (ps.drop e).deep = ps.deep ∧ j = ps.len - e) ps.len
      (sizeSt (.mk h ps) 0 1 0) (weak_mk ⟨_, rfl⟩ (by repeat' (first | exact rfl | exact we_rfl rfl | refine ⟨_, _, rfl, ?_, ?_⟩)) rfl rfl rfl (by repeat' (first | exact trivial | exact we_rfl rfl | refine ⟨⟨_, rfl, ?_⟩, ?_⟩))) ⟨0, 1, 0, rfl, by omega, rfl, by simp [Pts.drop], by omega⟩ ?_
    rintro j st ⟨e, n, d, rfl, he, hne, hde, rfl⟩
    refine br (fun hL => ?_) (fun hL => ?_)
    · have hlt : e < ps.len := by simpa [dPts_len] using hL
      obtain ⟨p, t, hx⟩ := Pts.get_lt hlt
      have hwt := Pts.wt_mem (List.mem_of_getElem? hx)
      rw [Pts.drop_cons hx] at hne hde
      simp only [Pts.cnt, Pts.deep] at hne hde
      have hct := t.cnt_wt
      have hdt := t.deep_wt
      refine ⟨_, ⟨by omega, dPts_get hx⟩, ?_⟩
      refine br (fun hB => ?_) (fun hB => ?_)
      · rw [if_pos hB] at hne hde
        exact ⟨sizeSt (.mk h ps) (e + 1) n d, (weak_mk ⟨_, rfl⟩ (by repeat' (first | exact rfl | exact we_rfl rfl | refine ⟨_, _, rfl, ?_, ?_⟩)) rfl rfl rfl (by repeat' (first | exact trivial | exact we_rfl rfl | exact we_int (nxt hlt (by omega)) | refine ⟨⟨_, rfl, ?_⟩, ?_⟩))), ps.len - (e + 1), by omega, e + 1, n, d, rfl, by omega, by omega, by omega, rfl⟩
      · rw [if_neg (by simp [hB])] at hne hde
        obtain ⟨u, us⟩ := t
        refine ⟨_, ⟨by omega, dPts_get hx⟩, ?_⟩
        refine call_p (enters_of Tryz.func14 (by decide +kernel) rfl) (size15_spec k (.mk u us) (by omega) (by omega)) (by repeat' (first | exact rfl | exact trivial | exact Or.inr (Or.inl ⟨_, rfl⟩) | exact Or.inr ⟨_, rfl⟩ | exact Or.inl ⟨rfl, rfl⟩ | exact Or.inl rfl | refine Or.inr ⟨_, _, rfl, Nat.zero_le _, rfl, ?_⟩ | refine ⟨_, _, rfl, ?_, ?_⟩ | refine ⟨_, rfl, ?_⟩ | refine Or.inr (Or.inr (Or.inr ⟨_, _, rfl, ?_⟩)) | exact Or.inl rfl | refine Or.inr ?_)) rfl ?_
        have hw4 : IntKind.i64.wrap ((n : Int) + (Ty.mk u us).cnt) = ((n + (Ty.mk u us).cnt : Nat) : Int) := by rw [wrap64 (by omega) (by omega)]; omega
        refine br (fun hD => ?_) (fun hD => ?_)
        · have hD : d < (Ty.mk u us).deep := by simpa using hD
          exact ⟨sizeSt (.mk h ps) (e + 1) (n + (Ty.mk u us).cnt) (Ty.mk u us).deep, (weak_mk ⟨_, rfl⟩ (by repeat' (first | exact rfl | exact we_rfl rfl | refine ⟨_, _, rfl, ?_, ?_⟩)) rfl rfl rfl (by repeat' (first | exact trivial | exact we_rfl rfl | exact we_int hw4 | exact we_int (nxt hlt (by omega)) | refine ⟨⟨_, rfl, ?_⟩, ?_⟩))), ps.len - (e + 1), by omega, e + 1, _, _, rfl, by omega, by omega, by omega, rfl⟩
        · have hD : ¬ d < (Ty.mk u us).deep := by simpa using hD
          exact ⟨sizeSt (.mk h ps) (e + 1) (n + (Ty.mk u us).cnt) d, (weak_mk ⟨_, rfl⟩ (by repeat' (first | exact rfl | exact we_rfl rfl | refine ⟨_, _, rfl, ?_, ?_⟩)) rfl rfl rfl (by repeat' (first | exact trivial | exact we_rfl rfl | exact we_int hw4 | exact we_int (nxt hlt (by omega)) | refine ⟨⟨_, rfl, ?_⟩, ?_⟩))), ps.len - (e + 1), by omega, e + 1, _, _, rfl, by omega, by omega, by omega, rfl⟩
    · have hge : e = ps.len := by simp [dPts_len] at hL; omega
      rw [hge, Pts.drop_len] at hne hde
      simp only [Pts.cnt, Pts.deep] at hne hde
      have e1 : IntKind.i64.wrap ((d : Int) + 1) = ((Ty.mk h ps).deep : Int) := by rw [wrap64 (by omega) (by omega)]; simp only [Ty.deep]; omega
      have e2 : (n : Int) = ((Ty.mk h ps).cnt : Int) := by simp only [Ty.cnt]; omega
      refine ⟨_, ?_, rfl⟩
      rw [← e1, ← e2]
      exact (by repeat' (first | exact rfl | exact trivial | exact Or.inr (Or.inl ⟨_, rfl⟩) | exact Or.inr ⟨_, rfl⟩ | exact Or.inl ⟨rfl, rfl⟩ | exact Or.inl rfl | refine Or.inr ⟨_, _, rfl, Nat.zero_le _, rfl, ?_⟩ | refine ⟨_, _, rfl, ?_, ?_⟩ | refine ⟨_, rfl, ?_⟩ | refine Or.inr (Or.inr (Or.inr ⟨_, _, rfl, ?_⟩)) | exact Or.inl rfl | refine Or.inr ?_))

/-- The state of a check: a fault, and how many types were met. -/
def wD (f : Ft) (n : Int) : DV := .agg [.v (.int .i64 f.1), .v (.int .i64 f.2), .v (.int .i64 n)]

theorem with15_spec (f : Ft) (n e a : Int) : EvP Tryz.prog 62 [wD f n, .v (.int .i64 e), .v (.int .i64 a)] (wD (e, a) n) := by
  refine ev_go (P := Tryz.prog) tt tt_ok 5000 13 [.cell 6 35] Tryz.func62 rfl Tryz.ntmps62 rfl (Nat.le_of_ble_eq_true rfl) (fun E9 w9 hn9 hm9 => ?_)
  exact ⟨_, (by repeat' (first | exact rfl | exact trivial | exact Or.inr (Or.inl ⟨_, rfl⟩) | exact Or.inr ⟨_, rfl⟩ | exact Or.inl ⟨rfl, rfl⟩ | exact Or.inl rfl | refine Or.inr ⟨_, _, rfl, Nat.zero_le _, rfl, ?_⟩ | refine ⟨_, _, rfl, ?_, ?_⟩ | refine ⟨_, rfl, ?_⟩ | refine Or.inr (Or.inr (Or.inr ⟨_, _, rfl, ?_⟩)) | exact Or.inl rfl | refine Or.inr ?_)), rfl⟩

/-- What is wrong with how a part is shown coarsely. -/
def coarseF (p : Ph) : Ft :=
  if p.ck = 0 then (if p.cn = 0 ∧ p.cl = [] then (0, 0) else (19, p.name.a))
  else if p.ck < 0 ∨ 3 < p.ck then (14, p.ca)
  else if (p.ck = 1 ∧ p.cn < 1) ∨ (p.ck = 2 ∧ (p.cn < 0 ∨ 4096 < p.cn)) ∨ (p.ck = 3 ∧ p.cn ≠ 0) then (20, p.ca)
  else labelF p.cl

theorem coarse15_spec (p : Ph) (tl : List DV) (hs : p.wt ≤ 4611686018427387904) :
    EvP Tryz.prog 123 [.agg (dPh p tl)] (coarseF p).d := by
  simp only [Ph.wt] at hs
  refine ev_go (P := Tryz.prog) tt tt_ok 5000 73 [.cell 2 33] Tryz.func123 rfl Tryz.ntmps123 rfl (Nat.le_of_ble_eq_true rfl) (fun E9 w9 hn9 hm9 => ?_)
  refine br (fun h0 => ?_) (fun h0 => ?_)
  · have h0 : p.ck = 0 := by simpa using h0
    refine br (fun h1 => ?_) (fun h1 => ?_)
    · have : coarseF p = (19, p.name.a) := by
        simp [pickB_or, dWds_len] at h1
        simp only [coarseF, h0, if_true]
        rw [if_neg]
        rintro ⟨h2, h3⟩
        rcases h1 with h1 | h1
        · exact h1 h2
        · simp [h3] at h1
      refine ⟨_, ?_, rfl⟩
      rw [this]
      exact (by repeat' (first | exact rfl | exact trivial | exact Or.inr (Or.inl ⟨_, rfl⟩) | exact Or.inr ⟨_, rfl⟩ | exact Or.inl ⟨rfl, rfl⟩ | exact Or.inl rfl | refine Or.inr ⟨_, _, rfl, Nat.zero_le _, rfl, ?_⟩ | refine ⟨_, _, rfl, ?_, ?_⟩ | refine ⟨_, rfl, ?_⟩ | refine Or.inr (Or.inr (Or.inr ⟨_, _, rfl, ?_⟩)) | exact Or.inl rfl | refine Or.inr ?_))
    · have : coarseF p = (0, 0) := by
        simp [pickB_or, dWds_len] at h1
        simp [coarseF, h0, h1.1, h1.2]
      refine ⟨_, ?_, rfl⟩
      rw [this]
      exact (by repeat' (first | exact rfl | exact trivial | exact Or.inr (Or.inl ⟨_, rfl⟩) | exact Or.inr ⟨_, rfl⟩ | exact Or.inl ⟨rfl, rfl⟩ | exact Or.inl rfl | refine Or.inr ⟨_, _, rfl, Nat.zero_le _, rfl, ?_⟩ | refine ⟨_, _, rfl, ?_, ?_⟩ | refine ⟨_, rfl, ?_⟩ | refine Or.inr (Or.inr (Or.inr ⟨_, _, rfl, ?_⟩)) | exact Or.inl rfl | refine Or.inr ?_))
  · have h0 : ¬ p.ck = 0 := by simpa using h0
    refine br (fun h1 => ?_) (fun h1 => ?_)
    · have : coarseF p = (14, p.ca) := by
        simp [pickB_or] at h1
        simp [coarseF, h0, h1]
      refine ⟨_, ?_, rfl⟩
      rw [this]
      exact (by repeat' (first | exact rfl | exact trivial | exact Or.inr (Or.inl ⟨_, rfl⟩) | exact Or.inr ⟨_, rfl⟩ | exact Or.inl ⟨rfl, rfl⟩ | exact Or.inl rfl | refine Or.inr ⟨_, _, rfl, Nat.zero_le _, rfl, ?_⟩ | refine ⟨_, _, rfl, ?_, ?_⟩ | refine ⟨_, rfl, ?_⟩ | refine Or.inr (Or.inr (Or.inr ⟨_, _, rfl, ?_⟩)) | exact Or.inl rfl | refine Or.inr ?_))
    · simp [pickB_or] at h1
      refine br (fun h2 => ?_) (fun h2 => ?_)
      · have : coarseF p = (20, p.ca) := by
          simp [pickB_or, pickB_and] at h2
          simp only [coarseF, h0, if_false]
          rw [if_neg (by omega), if_pos (by omega)]
        refine ⟨_, ?_, rfl⟩
        rw [this]
        exact (by repeat' (first | exact rfl | exact trivial | exact Or.inr (Or.inl ⟨_, rfl⟩) | exact Or.inr ⟨_, rfl⟩ | exact Or.inl ⟨rfl, rfl⟩ | exact Or.inl rfl | refine Or.inr ⟨_, _, rfl, Nat.zero_le _, rfl, ?_⟩ | refine ⟨_, _, rfl, ?_, ?_⟩ | refine ⟨_, rfl, ?_⟩ | refine Or.inr (Or.inr (Or.inr ⟨_, _, rfl, ?_⟩)) | exact Or.inl rfl | refine Or.inr ?_))
      · have hc : coarseF p = labelF p.cl := by
          simp [pickB_or, pickB_and] at h2
          simp only [coarseF, h0, if_false]
          rw [if_neg (by omega), if_neg (by omega)]
        refine call_p (enters_of Tryz.func122 (by decide +kernel) rfl) (label15_spec p.cl (by omega)) (by repeat' (first | exact rfl | exact trivial | exact Or.inr (Or.inl ⟨_, rfl⟩) | exact Or.inr ⟨_, rfl⟩ | exact Or.inl ⟨rfl, rfl⟩ | exact Or.inl rfl | refine Or.inr ⟨_, _, rfl, Nat.zero_le _, rfl, ?_⟩ | refine ⟨_, _, rfl, ?_, ?_⟩ | refine ⟨_, rfl, ?_⟩ | refine Or.inr (Or.inr (Or.inr ⟨_, _, rfl, ?_⟩)) | exact Or.inl rfl | refine Or.inr ?_)) rfl ?_
        refine ⟨_, ?_, rfl⟩
        rw [hc]
        exact (by repeat' (first | exact rfl | exact trivial | exact Or.inr (Or.inl ⟨_, rfl⟩) | exact Or.inr ⟨_, rfl⟩ | exact Or.inl ⟨rfl, rfl⟩ | exact Or.inl rfl | refine Or.inr ⟨_, _, rfl, Nat.zero_le _, rfl, ?_⟩ | refine ⟨_, _, rfl, ?_, ?_⟩ | refine ⟨_, rfl, ?_⟩ | refine Or.inr (Or.inr (Or.inr ⟨_, _, rfl, ?_⟩)) | exact Or.inl rfl | refine Or.inr ?_))
end Go.Proofs.YtmphiikdhifhjaaGreat
set_option maxRecDepth 100000
namespace Go.Proofs.YtmphiikdhifhjaaGreat
open Go Go.RowKit Dv Tryz

/-- What is wrong with a list of names that must differ, from the i-th on. -/
def enumL (all : List Wd) : Nat → List Wd → Ft
  | _, [] => (0, 0)
  | i, x :: r => if listedF all i x ≠ 0 then (listedF all i x, x.a) else enumL all (i + 1) r

def enumWd (h : Hd) : Ft :=
  if h.names = [] then (15, h.at')
  else if 64 < h.names.length then (8, ((h.names[64]?).getD (⟨emptyB, 0⟩ : Wd)).a)
  else enumL h.names 0 h.names

/-- What is wrong with a part that isn't Bare, but for its type. -/
def partWd (p : Ph) : Ft :=
  if p.wide < 0 ∨ 64 < p.wide then (20, p.name.a)
  else if (labelF p.label).1 ≠ 0 then labelF p.label
  else coarseF p

def ownB (t : Ty) : Bool := sameTy t (mask t)

mutual
/-- The fault of a type, and how many types have been met. -/
def wrong : Ty → Int → Int → Ft × Int
  | .mk h ps, depth, m =>
    if 24 < depth then ((6, h.at'), m + 1)
    else if 512 < m + 1 then ((8, h.at'), m + 1)
    else if h.kind < 1 ∨ 9 < h.kind then ((14, h.at'), m + 1)
    else if ownB (.mk h ps) = false then ((19, h.at'), m + 1)
    else if (h.kind = 2 ∧ h.hi < h.lo) ∨ (h.kind = 3 ∧ (h.most < 0 ∨ 4096 < h.most)) then ((20, h.at'), m + 1)
    else if h.kind = 9 ∧ nameOK h.name.s = false then ((9, h.name.a), m + 1)
    else if h.kind = 4 then (enumWd h, m + 1)
    else if h.kind = 5 ∨ h.kind = 6 then wrongOne h ps depth (m + 1)
    else if h.kind = 7 ∨ h.kind = 8 then
      if h.kind = 8 ∧ ps.len = 0 then ((15, h.at'), m + 1)
      else if 64 < ps.len then ((8, (((pNames ps)[64]?).getD (⟨emptyB, 0⟩ : Wd)).a), m + 1)
      else wrongPts h.kind (pNames ps) 0 ps depth (m + 1)
    else ((0, 0), m + 1)
/-- The same of a list's or an option's part. -/
def wrongOne : Hd → Pts → Int → Int → Ft × Int
  | h, .cons p t .nil, depth, m =>
    if p.name.s ≠ emptyB ∨ plainP p zeroPh = false then ((19, h.at'), m)
    else if h.most < 0 ∨ 1024 < h.most then ((20, h.at'), m)
    else wrong t (depth + 1) m
  | h, _, _, m => ((19, h.at'), m)
/-- The same of a record's or a union's parts, from the i-th on. -/
def wrongPts (kind : Int) (all : List Wd) : Nat → Pts → Int → Int → Ft × Int
  | _, .nil, _, m => ((0, 0), m)
  | i, .cons p t r, depth, m =>
    if listedF all i p.name ≠ 0 then ((listedF all i p.name, p.name.a), m)
    else if p.bare = true then
      if kind = 7 ∨ sameTy t zeroTy = false ∨ plainP p barePh = false then ((19, p.name.a), m) else wrongPts kind all (i + 1) r depth m
    else if (partWd p).1 ≠ 0 then (partWd p, m)
    else if (wrong t (depth + 1) m).1.1 ≠ 0 then wrong t (depth + 1) m
    else wrongPts kind all (i + 1) r depth (wrong t (depth + 1) m).2
end

/-- The contract of Wrong, for types of at most this weight. -/
def WrongOK (k : Nat) : Prop := ∀ (t : Ty) (depth m : Int), t.wt ≤ k → t.wt ≤ 1099511627776 → 0 ≤ depth → depth ≤ 25 → 0 ≤ m → m ≤ 512 →
  EvP Tryz.prog 16 [wD (0, 0) m, .agg (dTy t), .v (.int .i64 depth)] (wD (wrong t depth m).1 (wrong t depth m).2)

abbrev partsSt (t : Ty) (e : Nat) (depth m : Int) : St :=
  ⟨[(2, ⟨[], .v (.int .i64 depth)⟩), (3, ⟨[], .loc 0 0⟩), (4, ⟨[], .loc 1 0⟩), (6, ⟨[], .loc 2 0⟩), (7, ⟨[], .v (.int .i64 e)⟩)], [[.v (.int .i64 0), .v (.int .i64 0), .v (.int .i64 m)], dTy t, [.v (.int .i64 0), .v (.int .i64 0), .v (.int .i64 0)]], []⟩

/-- What parts says of a type's parts. -/
def partsF (h : Hd) (ps : Pts) (depth m : Int) : Ft × Int :=
  if h.kind = 8 ∧ ps.len = 0 then ((15, h.at'), m)
  else if 64 < ps.len then ((8, (((pNames ps)[64]?).getD (⟨emptyB, 0⟩ : Wd)).a), m)
  else wrongPts h.kind (pNames ps) 0 ps depth m


theorem enumL_ok (all : List Wd) : ∀ (l : List Wd) (i : Nat), (enumL all i l).1 = 0 → enumL all i l = (0, 0)
  | [], _, _ => rfl
  | x :: r, i, h => by
    have ih := enumL_ok all r (i + 1)
    simp only [enumL] at h ⊢
    split at h
    · rename_i hc; exact (hc h).elim
    · rename_i hc; rw [if_neg hc]; exact ih h
theorem enumWd_ok (h : Hd) (he : (enumWd h).1 = 0) : enumWd h = (0, 0) := by
  unfold enumWd at he ⊢
  split at he
  · simp at he
  · split at he
    · simp at he
    · rename_i h1 h2
      rw [if_neg h1, if_neg h2]
      exact enumL_ok _ _ _ he

mutual
/-- Where nothing is wrong, there is no place, and the number is in bounds. -/
theorem wrong_ok : ∀ (t : Ty) (depth m : Int), 0 ≤ m → (wrong t depth m).1.1 = 0 → (wrong t depth m).1 = (0, 0) ∧ 0 ≤ (wrong t depth m).2 ∧ (wrong t depth m).2 ≤ 512
  | .mk h ps, depth, m, hm, he => by
    have i1 := wrongOne_ok h ps depth (m + 1) (by omega)
    have i2 := wrongPts_ok h.kind (pNames ps) ps 0 depth (m + 1) (by omega)
    have i3 := enumWd_ok h
    simp only [wrong] at he ⊢
    by_cases c0 : 24 < depth
    · rw [if_pos c0] at he; simp at he
    rw [if_neg c0] at he ⊢
    by_cases c1 : 512 < m + 1
    · rw [if_pos c1] at he; simp at he
    rw [if_neg c1] at he ⊢
    by_cases c2 : h.kind < 1 ∨ 9 < h.kind
    · rw [if_pos c2] at he; simp at he
    rw [if_neg c2] at he ⊢
    by_cases c3 : ownB (.mk h ps) = false
    · rw [if_pos c3] at he; simp at he
    rw [if_neg c3] at he ⊢
    by_cases c4 : (h.kind = 2 ∧ h.hi < h.lo) ∨ (h.kind = 3 ∧ (h.most < 0 ∨ 4096 < h.most))
    · rw [if_pos c4] at he; simp at he
    rw [if_neg c4] at he ⊢
    by_cases c5 : h.kind = 9 ∧ nameOK h.name.s = false
    · rw [if_pos c5] at he; simp at he
    rw [if_neg c5] at he ⊢
    by_cases k4 : h.kind = 4
    · rw [if_pos k4] at he ⊢
      exact ⟨i3 he, by simp only; omega, by simp only; omega⟩
    rw [if_neg k4] at he ⊢
    by_cases k5 : h.kind = 5 ∨ h.kind = 6
    · rw [if_pos k5] at he ⊢
      exact i1 (by omega) he
    rw [if_neg k5] at he ⊢
    by_cases k7 : h.kind = 7 ∨ h.kind = 8
    · rw [if_pos k7] at he ⊢
      by_cases k8 : h.kind = 8 ∧ ps.len = 0
      · rw [if_pos k8] at he; simp at he
      rw [if_neg k8] at he ⊢
      by_cases k9 : 64 < ps.len
      · rw [if_pos k9] at he; simp at he
      rw [if_neg k9] at he ⊢
      exact i2 (by omega) he
    · rw [if_neg k7]
      exact ⟨rfl, by simp only; omega, by simp only; omega⟩
theorem wrongOne_ok : ∀ (h : Hd) (ps : Pts) (depth m : Int), 0 ≤ m → m ≤ 512 → (wrongOne h ps depth m).1.1 = 0 → (wrongOne h ps depth m).1 = (0, 0) ∧ 0 ≤ (wrongOne h ps depth m).2 ∧ (wrongOne h ps depth m).2 ≤ 512
  | h, .nil, depth, m, hm, _, he => by simp [wrongOne] at he
  | h, .cons p t .nil, depth, m, hm, h5, he => by
    have ih := wrong_ok t (depth + 1) m hm
    simp only [wrongOne] at he ⊢
    split at he
    · simp at he
    · split at he
      · simp at he
      · rename_i h1 h2
        rw [if_neg h1, if_neg h2]
        exact ih he
  | h, .cons p t (.cons _ _ _), depth, m, hm, _, he => by simp [wrongOne] at he
theorem wrongPts_ok (kind : Int) (all : List Wd) : ∀ (ps : Pts) (i : Nat) (depth m : Int), 0 ≤ m → m ≤ 512 → (wrongPts kind all i ps depth m).1.1 = 0 → (wrongPts kind all i ps depth m).1 = (0, 0) ∧ 0 ≤ (wrongPts kind all i ps depth m).2 ∧ (wrongPts kind all i ps depth m).2 ≤ 512
  | .nil, i, depth, m, hm, h5, he => by simp only [wrongPts]; exact ⟨trivial, hm, h5⟩
  | .cons p t r, i, depth, m, hm, h5, he => by
    have i1 := wrong_ok t (depth + 1) m hm
    simp only [wrongPts] at he ⊢
    split at he
    · rename_i h1; exact (h1 he).elim
    · rename_i h1
      rw [if_neg h1]
      split at he
      · rename_i h2
        rw [if_pos h2]
        split at he
        · simp at he
        · rename_i h3
          rw [if_neg h3]
          exact wrongPts_ok kind all r (i + 1) depth m hm h5 he
      · rename_i h2
        rw [if_neg h2]
        split at he
        · rename_i h3; exact (h3 he).elim
        · rename_i h3
          rw [if_neg h3]
          split at he
          · rename_i h4; exact (h4 he).elim
          · rename_i h4
            rw [if_neg h4]
            have i2 := i1 (by simpa using h4)
            exact wrongPts_ok kind all r (i + 1) depth _ i2.2.1 i2.2.2 he
end

theorem parts15_spec (k : Nat) (ih : WrongOK k) (h : Hd) (ps : Pts) (depth m : Int) (hk : ps.wt ≤ k) (hbig : (Ty.mk h ps).wt ≤ 1099511627776) (hd0 : 0 ≤ depth) (hd1 : depth ≤ 24) (hm0 : 0 ≤ m) (hm1 : m ≤ 512) :
    EvP Tryz.prog 67 [wD (0, 0) m, .agg (dTy (.mk h ps)), .v (.int .i64 depth)] (wD (partsF h ps depth m).1 (partsF h ps depth m).2) := by
  simp only [Ty.wt, Hd.wt] at hbig
  have hpl := ps.wt_len
  have hnw := pNames_wt ps
  refine ev_go (P := Tryz.prog) tt tt_ok 5000 126 [.cell 6 35] Tryz.func67 rfl Tryz.ntmps67 rfl (Nat.le_of_ble_eq_true rfl) (fun E9 w9 hn9 hm9 => ?_)
  refine br (fun c1 => ?_) (fun c1 => ?_)
  · refine call_p (enters_of Tryz.func62 (by decide +kernel) rfl) (with15_spec (0, 0) m 15 h.at') (by repeat' (first | exact rfl | exact trivial | exact Or.inr (Or.inl ⟨_, rfl⟩) | exact Or.inr ⟨_, rfl⟩ | exact Or.inl ⟨rfl, rfl⟩ | exact Or.inl rfl | refine Or.inr ⟨_, _, rfl, Nat.zero_le _, rfl, ?_⟩ | refine ⟨_, _, rfl, ?_, ?_⟩ | refine ⟨_, rfl, ?_⟩ | refine Or.inr (Or.inr (Or.inr ⟨_, _, rfl, ?_⟩)) | exact Or.inl rfl | refine Or.inr ?_)) rfl ?_
    have : partsF h ps depth m = ((15, h.at'), m) := by
      simp [pickB_and, dPts_len] at c1
      have : ps.len = 0 := by omega
      simp [partsF, c1.1, this]
    refine ⟨_, ?_, rfl⟩
    rw [this]
    exact (by repeat' (first | exact rfl | exact trivial | exact Or.inr (Or.inl ⟨_, rfl⟩) | exact Or.inr ⟨_, rfl⟩ | exact Or.inl ⟨rfl, rfl⟩ | exact Or.inl rfl | refine Or.inr ⟨_, _, rfl, Nat.zero_le _, rfl, ?_⟩ | refine ⟨_, _, rfl, ?_, ?_⟩ | refine ⟨_, rfl, ?_⟩ | refine Or.inr (Or.inr (Or.inr ⟨_, _, rfl, ?_⟩)) | exact Or.inl rfl | refine Or.inr ?_))
  · have c1' : ¬ (h.kind = 8 ∧ ps.len = 0) := by
      simp [pickB_and, dPts_len] at c1
      omega
    refine br (fun c2 => ?_) (fun c2 => ?_)
    · have hlt : 64 < ps.len := by simp [dPts_len] at c2; omega
      obtain ⟨p, t, hx⟩ := Pts.get_lt hlt
      refine drawG_i (fun i => Nat.beq i 8) mo (by decide +kernel) ?_
      refine ⟨_, ⟨by omega, dPts_get hx⟩, ?_⟩
      refine callD_p (enters_of Tryz.func62 (by decide +kernel) rfl) (with15_spec (0, 0) m 8 p.name.a) (by repeat' (first | exact rfl | exact trivial | exact Or.inr (Or.inl ⟨_, rfl⟩) | exact Or.inr ⟨_, rfl⟩ | exact Or.inl ⟨rfl, rfl⟩ | exact Or.inl rfl | refine Or.inr ⟨_, _, rfl, Nat.zero_le _, rfl, ?_⟩ | refine ⟨_, _, rfl, ?_, ?_⟩ | refine ⟨_, rfl, ?_⟩ | refine Or.inr (Or.inr (Or.inr ⟨_, _, rfl, ?_⟩)) | exact Or.inl rfl | refine Or.inr ?_)) rfl ?_
      have : partsF h ps depth m = ((8, p.name.a), m) := by
        simp only [partsF, if_neg c1', if_pos hlt, pNames_get hx]
        rfl
      refine ⟨_, ?_, rfl⟩
      rw [this]
      exact (by repeat' (first | exact rfl | exact trivial | exact Or.inr (Or.inl ⟨_, rfl⟩) | exact Or.inr ⟨_, rfl⟩ | exact Or.inl ⟨rfl, rfl⟩ | exact Or.inl rfl | refine Or.inr ⟨_, _, rfl, Nat.zero_le _, rfl, ?_⟩ | refine ⟨_, _, rfl, ?_, ?_⟩ | refine ⟨_, rfl, ?_⟩ | refine Or.inr (Or.inr (Or.inr ⟨_, _, rfl, ?_⟩)) | exact Or.inl rfl | refine Or.inr ?_))
    · have c2' : ¬ 64 < ps.len := by simp [dPts_len] at c2; omega
      have hF : partsF h ps depth m = wrongPts h.kind (pNames ps) 0 ps depth m := by simp only [partsF, if_neg c1', if_neg c2']
      refine loop_i (fun j st => ∃ (e : Nat) (m' : Int), st = partsSt (.mk h ps) e depth m' ∧ e ≤ ps.len ∧ 0 ≤ m' ∧ m' ≤ 512 ∧
          wrongPts h.kind (pNames ps) 0 ps depth m = wrongPts h.kind (pNames ps) e (ps.drop e) depth m' ∧ j = ps.len - e) ps.len
        (partsSt (.mk h ps) 0 depth m) (weak_mk ⟨_, rfl⟩ (by repeat' (first | exact rfl | exact we_rfl rfl | refine ⟨_, _, rfl, ?_, ?_⟩)) rfl rfl rfl (by repeat' (first | exact trivial | exact we_rfl rfl | refine ⟨⟨_, rfl, ?_⟩, ?_⟩))) ⟨0, m, rfl, by omega, hm0, hm1, rfl, by omega⟩ ?_
      rintro j st ⟨e, m', rfl, he, hm0', hm1', heq, rfl⟩
      refine br (fun hL => ?_) (fun hL => ?_)
      · have hlt : e < ps.len := by simpa [dPts_len] using hL
        obtain ⟨p, t, hx⟩ := Pts.get_lt hlt
        rw [Pts.drop_cons hx] at heq
        have hwt := Pts.wt_mem (List.mem_of_getElem? hx)
        obtain ⟨u, us⟩ := t
        refine ⟨_, ⟨by omega, dPts_get hx⟩, ?_⟩
        refine call_p (enters_of Tryz.func120 (by decide +kernel) rfl) (names15_spec ps (by omega)) (by repeat' (first | exact rfl | exact trivial | exact Or.inr (Or.inl ⟨_, rfl⟩) | exact Or.inr ⟨_, rfl⟩ | exact Or.inl ⟨rfl, rfl⟩ | exact Or.inl rfl | refine Or.inr ⟨_, _, rfl, Nat.zero_le _, rfl, ?_⟩ | refine ⟨_, _, rfl, ?_, ?_⟩ | refine ⟨_, rfl, ?_⟩ | refine Or.inr (Or.inr (Or.inr ⟨_, _, rfl, ?_⟩)) | exact Or.inl rfl | refine Or.inr ?_)) rfl ?_
        refine call_p (enters_of Tryz.func65 (by decide +kernel) rfl) (listed15_spec (pNames ps) e p.name (by omega) (pNames_get hx)) (by repeat' (first | exact rfl | exact trivial | exact Or.inr (Or.inl ⟨_, rfl⟩) | exact Or.inr ⟨_, rfl⟩ | exact Or.inl ⟨rfl, rfl⟩ | exact Or.inl rfl | refine Or.inr ⟨_, _, rfl, Nat.zero_le _, rfl, ?_⟩ | refine ⟨_, _, rfl, ?_, ?_⟩ | refine ⟨_, rfl, ?_⟩ | refine Or.inr (Or.inr (Or.inr ⟨_, _, rfl, ?_⟩)) | exact Or.inl rfl | refine Or.inr ?_)) rfl ?_
        refine br (fun hl => ?_) (fun hl => ?_)
        · have hl : listedF (pNames ps) e p.name ≠ 0 := by simpa using hl
          refine call_p (enters_of Tryz.func62 (by decide +kernel) rfl) (with15_spec (0, 0) m' _ p.name.a) (by repeat' (first | exact rfl | exact trivial | exact Or.inr (Or.inl ⟨_, rfl⟩) | exact Or.inr ⟨_, rfl⟩ | exact Or.inl ⟨rfl, rfl⟩ | exact Or.inl rfl | refine Or.inr ⟨_, _, rfl, Nat.zero_le _, rfl, ?_⟩ | refine ⟨_, _, rfl, ?_, ?_⟩ | refine ⟨_, rfl, ?_⟩ | refine Or.inr (Or.inr (Or.inr ⟨_, _, rfl, ?_⟩)) | exact Or.inl rfl | refine Or.inr ?_)) rfl ?_
          have : partsF h ps depth m = ((listedF (pNames ps) e p.name, p.name.a), m') := by
            rw [hF, heq]
            simp only [wrongPts]
            rw [if_pos hl]
          refine ⟨_, ?_, rfl⟩
          rw [this]
          exact (by repeat' (first | exact rfl | exact trivial | exact Or.inr (Or.inl ⟨_, rfl⟩) | exact Or.inr ⟨_, rfl⟩ | exact Or.inl ⟨rfl, rfl⟩ | exact Or.inl rfl | refine Or.inr ⟨_, _, rfl, Nat.zero_le _, rfl, ?_⟩ | refine ⟨_, _, rfl, ?_, ?_⟩ | refine ⟨_, rfl, ?_⟩ | refine Or.inr (Or.inr (Or.inr ⟨_, _, rfl, ?_⟩)) | exact Or.inl rfl | refine Or.inr ?_))
        · have hl : listedF (pNames ps) e p.name = 0 := by simpa using hl
          simp only [wrongPts] at heq
          rw [if_neg (by simp [hl])] at heq
          refine br (fun hB => ?_) (fun hB => ?_)
          · rw [if_pos hB] at heq
            refine br (fun k7 => ?_) (fun k7 => ?_)
            · have k7 : ¬ h.kind = 7 := by simpa using k7
              refine call_p (enters_of Tryz.func121 (by decide +kernel) rfl) (zero15_spec (.mk u us) (by omega)) (by repeat' (first | exact rfl | exact trivial | exact Or.inr (Or.inl ⟨_, rfl⟩) | exact Or.inr ⟨_, rfl⟩ | exact Or.inl ⟨rfl, rfl⟩ | exact Or.inl rfl | refine Or.inr ⟨_, _, rfl, Nat.zero_le _, rfl, ?_⟩ | refine ⟨_, _, rfl, ?_, ?_⟩ | refine ⟨_, rfl, ?_⟩ | refine Or.inr (Or.inr (Or.inr ⟨_, _, rfl, ?_⟩)) | exact Or.inl rfl | refine Or.inr ?_)) rfl ?_
              refine br (fun z => ?_) (fun z => ?_)
              · have z : sameTy (.mk u us) zeroTy = true := by simpa [pickB_or, k7] using z
                refine call_p (enters_of Tryz.func66 (by decide +kernel) rfl) (plain15_spec p barePh (dTy (.mk u us)) (dTy zeroTy) (by omega) (cc_ty _ _ _ _ _) (cc_ty _ _ _ _ _)) (by repeat' (first | exact rfl | exact trivial | exact Or.inr (Or.inl ⟨_, rfl⟩) | exact Or.inr ⟨_, rfl⟩ | exact Or.inl ⟨rfl, rfl⟩ | exact Or.inl rfl | refine Or.inr ⟨_, _, rfl, Nat.zero_le _, rfl, ?_⟩ | refine ⟨_, _, rfl, ?_, ?_⟩ | refine ⟨_, rfl, ?_⟩ | refine Or.inr (Or.inr (Or.inr ⟨_, _, rfl, ?_⟩)) | exact Or.inl rfl | refine Or.inr ?_)) rfl ?_
                refine br (fun q => ?_) (fun q => ?_)
                · have q : plainP p barePh = false := by simpa [pickB_or, k7, z] using q
                  refine call_p (enters_of Tryz.func62 (by decide +kernel) rfl) (with15_spec (0, 0) m' 19 p.name.a) (by repeat' (first | exact rfl | exact trivial | exact Or.inr (Or.inl ⟨_, rfl⟩) | exact Or.inr ⟨_, rfl⟩ | exact Or.inl ⟨rfl, rfl⟩ | exact Or.inl rfl | refine Or.inr ⟨_, _, rfl, Nat.zero_le _, rfl, ?_⟩ | refine ⟨_, _, rfl, ?_, ?_⟩ | refine ⟨_, rfl, ?_⟩ | refine Or.inr (Or.inr (Or.inr ⟨_, _, rfl, ?_⟩)) | exact Or.inl rfl | refine Or.inr ?_)) rfl ?_
                  rw [if_pos (by simp [q])] at heq
                  refine ⟨_, ?_, rfl⟩
                  rw [hF, heq]
                  exact (by repeat' (first | exact rfl | exact trivial | exact Or.inr (Or.inl ⟨_, rfl⟩) | exact Or.inr ⟨_, rfl⟩ | exact Or.inl ⟨rfl, rfl⟩ | exact Or.inl rfl | refine Or.inr ⟨_, _, rfl, Nat.zero_le _, rfl, ?_⟩ | refine ⟨_, _, rfl, ?_, ?_⟩ | refine ⟨_, rfl, ?_⟩ | refine Or.inr (Or.inr (Or.inr ⟨_, _, rfl, ?_⟩)) | exact Or.inl rfl | refine Or.inr ?_))
                · have q : plainP p barePh = true := by simpa [pickB_or, k7, z] using q
                  rw [if_neg (by simp [k7, z, q])] at heq
                  exact ⟨partsSt (.mk h ps) (e + 1) depth m', (weak_mk ⟨_, rfl⟩ (by repeat' (first | exact rfl | exact we_rfl rfl | refine ⟨_, _, rfl, ?_, ?_⟩)) rfl rfl rfl (by repeat' (first | exact trivial | exact we_rfl rfl | exact we_int (nxt hlt (by omega)) | refine ⟨⟨_, rfl, ?_⟩, ?_⟩))), ps.len - (e + 1), by omega, e + 1, m', rfl, by omega, hm0', hm1', heq, rfl⟩
              · have z : sameTy (.mk u us) zeroTy = false := by simpa [pickB_or, k7] using z
                refine call_p (enters_of Tryz.func62 (by decide +kernel) rfl) (with15_spec (0, 0) m' 19 p.name.a) (by repeat' (first | exact rfl | exact trivial | exact Or.inr (Or.inl ⟨_, rfl⟩) | exact Or.inr ⟨_, rfl⟩ | exact Or.inl ⟨rfl, rfl⟩ | exact Or.inl rfl | refine Or.inr ⟨_, _, rfl, Nat.zero_le _, rfl, ?_⟩ | refine ⟨_, _, rfl, ?_, ?_⟩ | refine ⟨_, rfl, ?_⟩ | refine Or.inr (Or.inr (Or.inr ⟨_, _, rfl, ?_⟩)) | exact Or.inl rfl | refine Or.inr ?_)) rfl ?_
                rw [if_pos (by simp [z])] at heq
                refine ⟨_, ?_, rfl⟩
                rw [hF, heq]
                exact (by repeat' (first | exact rfl | exact trivial | exact Or.inr (Or.inl ⟨_, rfl⟩) | exact Or.inr ⟨_, rfl⟩ | exact Or.inl ⟨rfl, rfl⟩ | exact Or.inl rfl | refine Or.inr ⟨_, _, rfl, Nat.zero_le _, rfl, ?_⟩ | refine ⟨_, _, rfl, ?_, ?_⟩ | refine ⟨_, rfl, ?_⟩ | refine Or.inr (Or.inr (Or.inr ⟨_, _, rfl, ?_⟩)) | exact Or.inl rfl | refine Or.inr ?_))
            · have k7 : h.kind = 7 := by simpa using k7
              refine call_p (enters_of Tryz.func62 (by decide +kernel) rfl) (with15_spec (0, 0) m' 19 p.name.a) (by repeat' (first | exact rfl | exact trivial | exact Or.inr (Or.inl ⟨_, rfl⟩) | exact Or.inr ⟨_, rfl⟩ | exact Or.inl ⟨rfl, rfl⟩ | exact Or.inl rfl | refine Or.inr ⟨_, _, rfl, Nat.zero_le _, rfl, ?_⟩ | refine ⟨_, _, rfl, ?_, ?_⟩ | refine ⟨_, rfl, ?_⟩ | refine Or.inr (Or.inr (Or.inr ⟨_, _, rfl, ?_⟩)) | exact Or.inl rfl | refine Or.inr ?_)) rfl ?_
              rw [if_pos (by simp [k7])] at heq
              refine ⟨_, ?_, rfl⟩
              rw [hF, heq]
              exact (by repeat' (first | exact rfl | exact trivial | exact Or.inr (Or.inl ⟨_, rfl⟩) | exact Or.inr ⟨_, rfl⟩ | exact Or.inl ⟨rfl, rfl⟩ | exact Or.inl rfl | refine Or.inr ⟨_, _, rfl, Nat.zero_le _, rfl, ?_⟩ | refine ⟨_, _, rfl, ?_, ?_⟩ | refine ⟨_, rfl, ?_⟩ | refine Or.inr (Or.inr (Or.inr ⟨_, _, rfl, ?_⟩)) | exact Or.inl rfl | refine Or.inr ?_))
          · rw [if_neg (by simp [hB])] at heq
            refine br (fun hw => ?_) (fun hw => ?_)
            · have hP : partWd p = (20, p.name.a) := by
                simp [pickB_or] at hw
                simp only [partWd, if_pos hw]
              rw [if_pos (by rw [hP]; simp), hP] at heq
              refine ⟨_, ?_, rfl⟩
              rw [hF, heq]
              exact (by repeat' (first | exact rfl | exact trivial | exact Or.inr (Or.inl ⟨_, rfl⟩) | exact Or.inr ⟨_, rfl⟩ | exact Or.inl ⟨rfl, rfl⟩ | exact Or.inl rfl | refine Or.inr ⟨_, _, rfl, Nat.zero_le _, rfl, ?_⟩ | refine ⟨_, _, rfl, ?_, ?_⟩ | refine ⟨_, rfl, ?_⟩ | refine Or.inr (Or.inr (Or.inr ⟨_, _, rfl, ?_⟩)) | exact Or.inl rfl | refine Or.inr ?_))
            · have hw : ¬ (p.wide < 0 ∨ 64 < p.wide) := by simp [pickB_or] at hw; omega
              have hpw : p.wt ≤ ps.wt := by omega
              simp only [Ph.wt] at hpw
              refine call_p (enters_of Tryz.func122 (by decide +kernel) rfl) (label15_spec p.label (by omega)) (by repeat' (first | exact rfl | exact trivial | exact Or.inr (Or.inl ⟨_, rfl⟩) | exact Or.inr ⟨_, rfl⟩ | exact Or.inl ⟨rfl, rfl⟩ | exact Or.inl rfl | refine Or.inr ⟨_, _, rfl, Nat.zero_le _, rfl, ?_⟩ | refine ⟨_, _, rfl, ?_, ?_⟩ | refine ⟨_, rfl, ?_⟩ | refine Or.inr (Or.inr (Or.inr ⟨_, _, rfl, ?_⟩)) | exact Or.inl rfl | refine Or.inr ?_)) rfl ?_
              refine br (fun hb => ?_) (fun hb => ?_)
              · have hb : (labelF p.label).1 = 0 := by simpa using hb
                have hP : partWd p = coarseF p := by simp only [partWd, if_neg hw, hb, ne_eq, not_true_eq_false, if_false]
                rw [hP] at heq
                refine call_p (enters_of Tryz.func123 (by decide +kernel) rfl) (coarse15_spec p (dTy (.mk u us)) (by omega)) (by repeat' (first | exact rfl | exact trivial | exact Or.inr (Or.inl ⟨_, rfl⟩) | exact Or.inr ⟨_, rfl⟩ | exact Or.inl ⟨rfl, rfl⟩ | exact Or.inl rfl | refine Or.inr ⟨_, _, rfl, Nat.zero_le _, rfl, ?_⟩ | refine ⟨_, _, rfl, ?_, ?_⟩ | refine ⟨_, rfl, ?_⟩ | exact congrArg DV.agg rfl| refine Or.inr (Or.inr (Or.inr ⟨_, _, rfl, ?_⟩)) | exact Or.inl rfl | refine Or.inr ?_)) rfl ?_
                refine br (fun hc => ?_) (fun hc => ?_)
                · have hc : (coarseF p).1 ≠ 0 := by simpa using hc
                  rw [if_pos hc] at heq
                  refine ⟨_, ?_, rfl⟩
                  rw [hF, heq]
                  exact (by repeat' (first | exact rfl | exact trivial | exact Or.inr (Or.inl ⟨_, rfl⟩) | exact Or.inr ⟨_, rfl⟩ | exact Or.inl ⟨rfl, rfl⟩ | exact Or.inl rfl | refine Or.inr ⟨_, _, rfl, Nat.zero_le _, rfl, ?_⟩ | refine ⟨_, _, rfl, ?_, ?_⟩ | refine ⟨_, rfl, ?_⟩ | refine Or.inr (Or.inr (Or.inr ⟨_, _, rfl, ?_⟩)) | exact Or.inl rfl | refine Or.inr ?_))
                · have hc : (coarseF p).1 = 0 := by simpa using hc
                  rw [if_neg (by simp [hc])] at heq
                  have hih := ih (.mk u us) (depth + 1) m' (by omega) (by omega) (by omega) (by omega) hm0' hm1'
                  have hok := wrong_ok (.mk u us) (depth + 1) m' hm0'
                  generalize wrong (.mk u us) (depth + 1) m' = r at hih hok heq
                  obtain ⟨⟨fe, fa⟩, many⟩ := r
                  simp only at hih hok heq
                  refine call_p (enters_of Tryz.func16 (by decide +kernel) rfl) (hih) (by repeat' (first | exact rfl | exact trivial | exact Or.inr (Or.inl ⟨_, rfl⟩) | exact Or.inr ⟨_, rfl⟩ | exact Or.inl ⟨rfl, rfl⟩ | exact Or.inl rfl | refine Or.inr ⟨_, _, rfl, Nat.zero_le _, rfl, ?_⟩ | refine ⟨_, _, rfl, ?_, ?_⟩ | refine ⟨_, rfl, ?_⟩ | exact congrArg (fun z => DV.v (.int .i64 z)) (wrap64 (by omega) (by omega))| refine Or.inr (Or.inr (Or.inr ⟨_, _, rfl, ?_⟩)) | exact Or.inl rfl | refine Or.inr ?_)) rfl ?_
                  refine br (fun hd => ?_) (fun hd => ?_)
                  · have hd : fe ≠ 0 := by simpa using hd
                    rw [if_pos hd] at heq
                    refine ⟨_, ?_, rfl⟩
                    rw [hF, heq]
                    exact (by repeat' (first | exact rfl | exact trivial | exact Or.inr (Or.inl ⟨_, rfl⟩) | exact Or.inr ⟨_, rfl⟩ | exact Or.inl ⟨rfl, rfl⟩ | exact Or.inl rfl | refine Or.inr ⟨_, _, rfl, Nat.zero_le _, rfl, ?_⟩ | refine ⟨_, _, rfl, ?_, ?_⟩ | refine ⟨_, rfl, ?_⟩ | refine Or.inr (Or.inr (Or.inr ⟨_, _, rfl, ?_⟩)) | exact Or.inl rfl | refine Or.inr ?_))
                  · have hd : fe = 0 := by simpa using hd
                    subst hd
                    obtain ⟨h1, h2, h3⟩ := hok rfl
                    simp only [Prod.mk.injEq, true_and] at h1
                    subst h1
                    rw [if_neg (by simp)] at heq
                    exact ⟨partsSt (.mk h ps) (e + 1) depth many, (weak_mk ⟨_, rfl⟩ (by repeat' (first | exact rfl | exact we_rfl rfl | refine ⟨_, _, rfl, ?_, ?_⟩)) rfl rfl rfl (by repeat' (first | exact trivial | exact we_rfl rfl | exact we_int (nxt hlt (by omega)) | refine ⟨⟨_, rfl, ?_⟩, ?_⟩))), ps.len - (e + 1), by omega, e + 1, many, rfl, by omega, h2, h3, heq, rfl⟩
              · have hb : ¬ (labelF p.label).1 = 0 := by simpa using hb
                have hP : partWd p = labelF p.label := by simp only [partWd, if_neg hw]; rw [if_pos hb]
                rw [hP, if_pos hb] at heq
                refine br (fun hc => ?_) (fun hc => ?_)
                · refine ⟨_, ?_, rfl⟩
                  rw [hF, heq]
                  exact (by repeat' (first | exact rfl | exact trivial | exact Or.inr (Or.inl ⟨_, rfl⟩) | exact Or.inr ⟨_, rfl⟩ | exact Or.inl ⟨rfl, rfl⟩ | exact Or.inl rfl | refine Or.inr ⟨_, _, rfl, Nat.zero_le _, rfl, ?_⟩ | refine ⟨_, _, rfl, ?_, ?_⟩ | refine ⟨_, rfl, ?_⟩ | refine Or.inr (Or.inr (Or.inr ⟨_, _, rfl, ?_⟩)) | exact Or.inl rfl | refine Or.inr ?_))
                · exact (hb (by simpa using hc)).elim
      · have hge : e = ps.len := by simp [dPts_len] at hL; omega
        rw [hge, Pts.drop_len] at heq
        refine ⟨_, ?_, rfl⟩
        rw [hF, heq]
        simp only [wrongPts]
        exact (by repeat' (first | exact rfl | exact trivial | exact Or.inr (Or.inl ⟨_, rfl⟩) | exact Or.inr ⟨_, rfl⟩ | exact Or.inl ⟨rfl, rfl⟩ | exact Or.inl rfl | refine Or.inr ⟨_, _, rfl, Nat.zero_le _, rfl, ?_⟩ | refine ⟨_, _, rfl, ?_, ?_⟩ | refine ⟨_, rfl, ?_⟩ | refine Or.inr (Or.inr (Or.inr ⟨_, _, rfl, ?_⟩)) | exact Or.inl rfl | refine Or.inr ?_))
end Go.Proofs.YtmphiikdhifhjaaGreat
set_option maxRecDepth 100000
namespace Go.Proofs.YtmphiikdhifhjaaGreat
open Go Go.RowKit Dv Tryz

theorem bad_spec (e a : Int) : EvP Tryz.prog 164 [.v (.int .i64 e), .v (.int .i64 a)] (Ft.d (e, a)) := by
  refine ev_go (P := Tryz.prog) tt tt_ok 5000 8 [.cell 4 33] Tryz.func164 rfl Tryz.ntmps164 rfl (Nat.le_of_ble_eq_true rfl) (fun E9 w9 hn9 hm9 => ?_)
  exact ⟨_, (by repeat' (first | exact rfl | exact trivial | exact Or.inr (Or.inl ⟨_, rfl⟩) | exact Or.inr ⟨_, rfl⟩ | exact Or.inl ⟨rfl, rfl⟩ | exact Or.inl rfl | refine Or.inr ⟨_, _, rfl, Nat.zero_le _, rfl, ?_⟩ | refine ⟨_, _, rfl, ?_, ?_⟩ | refine ⟨_, rfl, ?_⟩ | refine Or.inr (Or.inr (Or.inr ⟨_, _, rfl, ?_⟩)) | exact Or.inl rfl | refine Or.inr ?_)), rfl⟩

/-- What is wrong with the last of some texts, x. -/
noncomputable def listedP (L : List ByteArray) (x : ByteArray) (a : Int) : Ft := if nameOK x = true then (if L.Nodup then (0, 0) else (10, a)) else (9, a)

theorem listed_spec (L : List ByteArray) (x : ByteArray) (a : Int) (hx : L[L.length - 1]? = some x) (hl : L.length ≤ 1099511627776) (hxs : x.size ≤ 4611686018427387904) :
    EvP Tryz.prog 190 [.sl 1 (dBs L) none, .v (.int .i64 a)] (listedP L x a).d := by
  have hN := dBs_len L
  have hpos := (List.getElem?_eq_some_iff.1 hx).1
  have hz : IntKind.i64.wrap (((dBs L).length : Int) - 1) = ((L.length - 1 : Nat) : Int) := by rw [hN, wrap64 (by omega) (by omega)]; omega
  refine ev_go (P := Tryz.prog) tt tt_ok 5000 23 [.cell 4 33] Tryz.func190 rfl Tryz.ntmps190 rfl (Nat.le_of_ble_eq_true rfl) (fun E9 w9 hn9 hm9 => ?_)
  refine ⟨[.v (.string x)], ⟨by rw [hz]; omega, by rw [hz]; exact dBs_get hx⟩, ?_⟩
  refine call_p (enters_of Tryz.func75 (by decide +kernel) rfl) (right_spec x hxs) (by repeat' (first | exact rfl | exact trivial | exact Or.inr (Or.inl ⟨_, rfl⟩) | exact Or.inr ⟨_, rfl⟩ | exact Or.inl ⟨rfl, rfl⟩ | exact Or.inl rfl | refine Or.inr ⟨_, _, rfl, Nat.zero_le _, rfl, ?_⟩ | refine ⟨_, _, rfl, ?_, ?_⟩ | refine ⟨_, rfl, ?_⟩ | refine Or.inr (Or.inr (Or.inr ⟨_, _, rfl, ?_⟩)) | exact Or.inl rfl | refine Or.inr ?_)) rfl ?_
  refine br (fun h => ?_) (fun h => ?_)
  · have h : nameOK x = false := by simpa using h
    refine call_p (enters_of Tryz.func164 (by decide +kernel) rfl) (bad_spec 9 a) (by repeat' (first | exact rfl | exact trivial | exact Or.inr (Or.inl ⟨_, rfl⟩) | exact Or.inr ⟨_, rfl⟩ | exact Or.inl ⟨rfl, rfl⟩ | exact Or.inl rfl | refine Or.inr ⟨_, _, rfl, Nat.zero_le _, rfl, ?_⟩ | refine ⟨_, _, rfl, ?_, ?_⟩ | refine ⟨_, rfl, ?_⟩ | refine Or.inr (Or.inr (Or.inr ⟨_, _, rfl, ?_⟩)) | exact Or.inl rfl | refine Or.inr ?_)) rfl ?_
    refine ⟨_, ?_, rfl⟩
    rw [listedP, if_neg (by rw [h]; decide)]
    exact (by repeat' (first | exact rfl | exact trivial | exact Or.inr (Or.inl ⟨_, rfl⟩) | exact Or.inr ⟨_, rfl⟩ | exact Or.inl ⟨rfl, rfl⟩ | exact Or.inl rfl | refine Or.inr ⟨_, _, rfl, Nat.zero_le _, rfl, ?_⟩ | refine ⟨_, _, rfl, ?_, ?_⟩ | refine ⟨_, rfl, ?_⟩ | refine Or.inr (Or.inr (Or.inr ⟨_, _, rfl, ?_⟩)) | exact Or.inl rfl | refine Or.inr ?_))
  · have h : nameOK x = true := by simpa using h
    refine call_e (enters_of Tryz.func147 (by decide +kernel) rfl) rfl (twice_spec L hl) (by repeat' (first | exact rfl | exact trivial | exact Or.inr (Or.inl ⟨_, rfl⟩) | exact Or.inr ⟨_, rfl⟩ | exact Or.inl ⟨rfl, rfl⟩ | exact Or.inl rfl | refine Or.inr ⟨_, _, rfl, Nat.zero_le _, rfl, ?_⟩ | refine ⟨_, _, rfl, ?_, ?_⟩ | refine ⟨_, rfl, ?_⟩ | refine Or.inr (Or.inr (Or.inr ⟨_, _, rfl, ?_⟩)) | exact Or.inl rfl | refine Or.inr ?_)) (fun r hr => ?_)
    obtain ⟨z, rfl, hz⟩ := hr
    refine br (fun h2 => ?_) (fun h2 => ?_)
    · have h2 : 0 ≤ z := by simpa using h2
      refine call_p (enters_of Tryz.func164 (by decide +kernel) rfl) (bad_spec 10 a) (by repeat' (first | exact rfl | exact trivial | exact Or.inr (Or.inl ⟨_, rfl⟩) | exact Or.inr ⟨_, rfl⟩ | exact Or.inl ⟨rfl, rfl⟩ | exact Or.inl rfl | refine Or.inr ⟨_, _, rfl, Nat.zero_le _, rfl, ?_⟩ | refine ⟨_, _, rfl, ?_, ?_⟩ | refine ⟨_, rfl, ?_⟩ | refine Or.inr (Or.inr (Or.inr ⟨_, _, rfl, ?_⟩)) | exact Or.inl rfl | refine Or.inr ?_)) rfl ?_
      refine ⟨_, ?_, rfl⟩
      rw [listedP, if_pos h, if_neg (hz.1 h2)]
      exact (by repeat' (first | exact rfl | exact trivial | exact Or.inr (Or.inl ⟨_, rfl⟩) | exact Or.inr ⟨_, rfl⟩ | exact Or.inl ⟨rfl, rfl⟩ | exact Or.inl rfl | refine Or.inr ⟨_, _, rfl, Nat.zero_le _, rfl, ?_⟩ | refine ⟨_, _, rfl, ?_, ?_⟩ | refine ⟨_, rfl, ?_⟩ | refine Or.inr (Or.inr (Or.inr ⟨_, _, rfl, ?_⟩)) | exact Or.inl rfl | refine Or.inr ?_))
    · have h2 : ¬ 0 ≤ z := by simpa using h2
      refine ⟨_, ?_, rfl⟩
      rw [listedP, if_pos h, if_pos (Classical.byContradiction fun hn => h2 (hz.2 hn))]
      exact (by repeat' (first | exact rfl | exact trivial | exact Or.inr (Or.inl ⟨_, rfl⟩) | exact Or.inr ⟨_, rfl⟩ | exact Or.inl ⟨rfl, rfl⟩ | exact Or.inl rfl | refine Or.inr ⟨_, _, rfl, Nat.zero_le _, rfl, ?_⟩ | refine ⟨_, _, rfl, ?_, ?_⟩ | refine ⟨_, rfl, ?_⟩ | refine Or.inr (Or.inr (Or.inr ⟨_, _, rfl, ?_⟩)) | exact Or.inl rfl | refine Or.inr ?_))

theorem dWds_snoc0 {l : List Wd} {e : Nat} {x : Wd} (h : l[e]? = some x) : dWds ((l.map fun w => (⟨w.s, 0⟩ : Wd)).take e) ++ [[.v (.string x.s), .v (.int .i64 0)]] = dWds ((l.map fun w => (⟨w.s, 0⟩ : Wd)).take (e + 1)) := by
  have h2 : (l.map fun w => (⟨w.s, 0⟩ : Wd))[e]? = some ⟨x.s, 0⟩ := by simp [h]
  exact dWds_snoc h2

/-- Names without places. -/
def plainW (l : List Wd) : List Wd := l.map fun w => ⟨w.s, 0⟩

abbrev wdsSt (l l' : List Wd) (n e : Nat) : St :=
  ⟨[(6, ⟨[], .sl 2 (dWds l) none⟩), (7, ⟨[], .v (.int .i64 (dWds l).length)⟩), (8, ⟨[], .v (.int .i64 e)⟩), (3, ⟨[], .sl 2 (dWds l') (some 0)⟩)], [], [⟨n, 25, 2, none⟩]⟩

theorem words_spec (l : List Wd) (hs : wdsWt l ≤ 1099511627776) : EvP Tryz.prog 158 [.sl 2 (dWds l) none] (.sl 2 (dWds (plainW l)) none) := by
  have hl := wdsWt_len l
  refine ev_go (P := Tryz.prog) tt tt_ok 5000 20 [.tmp 2] Tryz.func158 rfl Tryz.ntmps158 rfl (Nat.le_of_ble_eq_true rfl) (fun E9 w9 hn9 hm9 => ?_)
  refine loop_i (fun j st => ∃ e : Nat, st = wdsSt l ((plainW l).take e) e e ∧ e ≤ l.length ∧ j = l.length - e) l.length (wdsSt l [] 0 0) (weak_tok ⟨0, 25, 2, none⟩ rfl ⟨_, rfl⟩ rfl (by repeat' (first | exact rfl | exact we_rfl rfl | refine ⟨_, _, rfl, ?_, ?_⟩)) rfl rfl (by repeat' (first | exact trivial | exact we_rfl rfl | exact we_rfl rfl | exact we_tok (Nat.le_refl _) rfl | refine ⟨⟨_, rfl, ?_⟩, ?_⟩))) ⟨0, by simp, by omega, by omega⟩ ?_
  rintro j st ⟨e, rfl, he, rfl⟩
  refine br (fun h => ?_) (fun h => ?_)
  · have hlt : e < l.length := by simpa [dWds_len] using h
    obtain ⟨w, hw⟩ : ∃ w, l[e]? = some w := ⟨_, List.getElem?_eq_getElem hlt⟩
    refine ⟨dWd w, ⟨by omega, dWds_get hw⟩, ?_⟩
    refine ⟨by simp [dWds_len, plainW]; omega, ⟨by simp [dWds_len, plainW, maxLen]; omega, by simp [dWds_len, plainW]; omega⟩, ?_⟩
    refine ⟨wdsSt l ((plainW l).take (e + 1)) (e + 1) (e + 1), (weak_mk ⟨_, rfl⟩ (by repeat' (first | exact rfl | exact we_rfl rfl | refine ⟨_, _, rfl, ?_, ?_⟩)) rfl rfl rfl (by repeat' (first | exact trivial | exact we_rfl rfl | exact we_int (nxt hlt (by omega)) | exact we_sl (dWds_snoc0 hw) rfl | refine ⟨⟨_, rfl, ?_⟩, ?_⟩))), l.length - (e + 1), by omega, e + 1, rfl, by omega, rfl⟩
  · have hge : e = l.length := by
      have := h; simp [dWds_len] at this; omega
    rw [hge, List.take_of_length_le (by simp [plainW])]
    exact ⟨_, (by repeat' (first | exact rfl | exact trivial | exact Or.inr (Or.inl ⟨_, rfl⟩) | exact Or.inr ⟨_, rfl⟩ | exact Or.inl ⟨rfl, rfl⟩ | exact Or.inl rfl | refine Or.inr ⟨_, _, rfl, Nat.zero_le _, rfl, ?_⟩ | refine ⟨_, _, rfl, ?_, ?_⟩ | refine ⟨_, rfl, ?_⟩ | refine Or.inr (Or.inr (Or.inr ⟨_, _, rfl, ?_⟩)) | exact Or.inl rfl | refine Or.inr ?_)), rfl⟩
end Go.Proofs.YtmphiikdhifhjaaGreat
set_option maxRecDepth 100000
namespace Go.Proofs.YtmphiikdhifhjaaGreat
open Go Go.RowKit Dv Tryz

abbrev labelPSt (l : List Wd) (e : Nat) : St :=
  ⟨[(13, ⟨[], .sl 2 (dWds l) none⟩), (14, ⟨[], .v (.int .i64 (dWds l).length)⟩), (2, ⟨[], .loc 0 0⟩), (15, ⟨[], .v (.int .i64 e)⟩)], [[.v (.int .i64 0), .v (.int .i64 0)]], []⟩

theorem klabel_spec (l : List Wd) (hs : wdsWt l ≤ 1099511627776) :
    EvP Tryz.prog 203 [.sl 2 (dWds l) none] (labelF l).d := by
  have hsl := wdsWt_len l
  refine ev_go (P := Tryz.prog) tt tt_ok 5000 28 [.cell 2 33] Tryz.func203 rfl Tryz.ntmps203 rfl (Nat.le_of_ble_eq_true rfl) (fun E9 w9 hn9 hm9 => ?_)
  refine br (fun h => ?_) (fun h => ?_)
  · have hlt : 32 < l.length := by simp [dWds_len] at h; omega
    obtain ⟨x, hx⟩ : ∃ x, l[32]? = some x := ⟨_, List.getElem?_eq_getElem hlt⟩
    have : labelF l = (8, x.a) := by simp [labelF, Nat.not_le.2 hlt, hx]
    refine ⟨dWd x, ⟨by omega, dWds_get hx⟩, ?_⟩
    refine call_p (enters_of Tryz.func164 (by decide +kernel) rfl) (bad_spec 8 x.a) (by repeat' (first | exact rfl | exact trivial | exact Or.inr (Or.inl ⟨_, rfl⟩) | exact Or.inr ⟨_, rfl⟩ | exact Or.inl ⟨rfl, rfl⟩ | exact Or.inl rfl | refine Or.inr ⟨_, _, rfl, Nat.zero_le _, rfl, ?_⟩ | refine ⟨_, _, rfl, ?_, ?_⟩ | refine ⟨_, rfl, ?_⟩ | refine Or.inr (Or.inr (Or.inr ⟨_, _, rfl, ?_⟩)) | exact Or.inl rfl | refine Or.inr ?_)) rfl ?_
    refine ⟨_, ?_, rfl⟩
    rw [this]
    exact (by repeat' (first | exact rfl | exact trivial | exact Or.inr (Or.inl ⟨_, rfl⟩) | exact Or.inr ⟨_, rfl⟩ | exact Or.inl ⟨rfl, rfl⟩ | exact Or.inl rfl | refine Or.inr ⟨_, _, rfl, Nat.zero_le _, rfl, ?_⟩ | refine ⟨_, _, rfl, ?_, ?_⟩ | refine ⟨_, rfl, ?_⟩ | refine Or.inr (Or.inr (Or.inr ⟨_, _, rfl, ?_⟩)) | exact Or.inl rfl | refine Or.inr ?_))
  · have hle : l.length ≤ 32 := by simp [dWds_len] at h; omega
    refine loop_i (fun j st => ∃ e : Nat, st = labelPSt l e ∧ e ≤ l.length ∧ badWd l = badWd (l.drop e) ∧ j = l.length - e) l.length
      (labelPSt l 0) (weak_mk ⟨_, rfl⟩ (by repeat' (first | exact rfl | exact we_rfl rfl | refine ⟨_, _, rfl, ?_, ?_⟩)) rfl rfl rfl (by repeat' (first | exact trivial | exact we_rfl rfl | refine ⟨⟨_, rfl, ?_⟩, ?_⟩))) ⟨0, rfl, by omega, rfl, by omega⟩ ?_
    rintro j st ⟨e, rfl, he, heq, rfl⟩
    refine br (fun hL => ?_) (fun hL => ?_)
    · have hlt : e < l.length := by simpa [dWds_len] using hL
      obtain ⟨x, hx⟩ : ∃ x, l[e]? = some x := ⟨_, List.getElem?_eq_getElem hlt⟩
      rw [drop_cons hx] at heq
      have hxs := wdsWt_mem (List.mem_of_getElem? hx)
      refine ⟨dWd x, ⟨by omega, dWds_get hx⟩, ?_⟩
      refine call_p (enters_of Tryz.func75 (by decide +kernel) rfl) (right_spec x.s (by omega)) (by repeat' (first | exact rfl | exact trivial | exact Or.inr (Or.inl ⟨_, rfl⟩) | exact Or.inr ⟨_, rfl⟩ | exact Or.inl ⟨rfl, rfl⟩ | exact Or.inl rfl | refine Or.inr ⟨_, _, rfl, Nat.zero_le _, rfl, ?_⟩ | refine ⟨_, _, rfl, ?_, ?_⟩ | refine ⟨_, rfl, ?_⟩ | refine Or.inr (Or.inr (Or.inr ⟨_, _, rfl, ?_⟩)) | exact Or.inl rfl | refine Or.inr ?_)) rfl ?_
      refine br (fun hN => ?_) (fun hN => ?_)
      · have hN : nameOK x.s = false := by simpa using hN
        have : labelF l = (9, x.a) := by simp [labelF, hle, heq, badWd, hN]
        refine call_p (enters_of Tryz.func164 (by decide +kernel) rfl) (bad_spec 9 x.a) (by repeat' (first | exact rfl | exact trivial | exact Or.inr (Or.inl ⟨_, rfl⟩) | exact Or.inr ⟨_, rfl⟩ | exact Or.inl ⟨rfl, rfl⟩ | exact Or.inl rfl | refine Or.inr ⟨_, _, rfl, Nat.zero_le _, rfl, ?_⟩ | refine ⟨_, _, rfl, ?_, ?_⟩ | refine ⟨_, rfl, ?_⟩ | refine Or.inr (Or.inr (Or.inr ⟨_, _, rfl, ?_⟩)) | exact Or.inl rfl | refine Or.inr ?_)) rfl ?_
        refine ⟨_, ?_, rfl⟩
        rw [this]
        exact (by repeat' (first | exact rfl | exact trivial | exact Or.inr (Or.inl ⟨_, rfl⟩) | exact Or.inr ⟨_, rfl⟩ | exact Or.inl ⟨rfl, rfl⟩ | exact Or.inl rfl | refine Or.inr ⟨_, _, rfl, Nat.zero_le _, rfl, ?_⟩ | refine ⟨_, _, rfl, ?_, ?_⟩ | refine ⟨_, rfl, ?_⟩ | refine Or.inr (Or.inr (Or.inr ⟨_, _, rfl, ?_⟩)) | exact Or.inl rfl | refine Or.inr ?_))
      · have hN : nameOK x.s = true := by simpa using hN
        refine ⟨labelPSt l (e + 1), (weak_mk ⟨_, rfl⟩ (by repeat' (first | exact rfl | exact we_rfl rfl | refine ⟨_, _, rfl, ?_, ?_⟩)) rfl rfl rfl (by repeat' (first | exact trivial | exact we_rfl rfl | exact we_int (nxt hlt (by omega)) | refine ⟨⟨_, rfl, ?_⟩, ?_⟩))), l.length - (e + 1), by omega, e + 1, rfl, by omega, ?_, rfl⟩
        rw [heq]
        simp [badWd, hN]
    · have hge : e = l.length := by simp [dWds_len] at hL; omega
      have : labelF l = (0, 0) := by simp [labelF, hle, heq, hge, badWd]
      refine ⟨_, ?_, rfl⟩
      rw [this]
      exact (by repeat' (first | exact rfl | exact trivial | exact Or.inr (Or.inl ⟨_, rfl⟩) | exact Or.inr ⟨_, rfl⟩ | exact Or.inl ⟨rfl, rfl⟩ | exact Or.inl rfl | refine Or.inr ⟨_, _, rfl, Nat.zero_le _, rfl, ?_⟩ | refine ⟨_, _, rfl, ?_, ?_⟩ | refine ⟨_, rfl, ?_⟩ | refine Or.inr (Or.inr (Or.inr ⟨_, _, rfl, ?_⟩)) | exact Or.inl rfl | refine Or.inr ?_))

theorem kcoarse_spec (p : Ph) (tl : List DV) (t : Ty) (htl : tl = dTy t) (hs : p.wt ≤ 1099511627776) :
    EvP Tryz.prog 204 [.agg (dPh p tl)] (coarseF p).d := by
  subst htl
  obtain ⟨u, us⟩ := t
  simp only [Ph.wt] at hs
  refine ev_go (P := Tryz.prog) tt tt_ok 5000 55 [.cell 2 33] Tryz.func204 rfl Tryz.ntmps204 rfl (Nat.le_of_ble_eq_true rfl) (fun E9 w9 hn9 hm9 => ?_)
  refine br (fun h0 => ?_) (fun h0 => ?_)
  · have h0 : p.ck = 0 := of_decide_eq_true h0
    refine br (fun h1 => ?_) (fun h1 => ?_)
    · have : coarseF p = (19, p.name.a) := by
        simp [pickB_or, dWds_len] at h1
        simp only [coarseF, h0, if_true]
        rw [if_neg]
        rintro ⟨h2, h3⟩
        rcases h1 with h1 | h1
        · exact h1 h2
        · simp [h3] at h1
      refine call_p (enters_of Tryz.func164 (by decide +kernel) rfl) (bad_spec 19 p.name.a) (by repeat' (first | exact rfl | exact trivial | exact Or.inr (Or.inl ⟨_, rfl⟩) | exact Or.inr ⟨_, rfl⟩ | exact Or.inl ⟨rfl, rfl⟩ | exact Or.inl rfl | refine Or.inr ⟨_, _, rfl, Nat.zero_le _, rfl, ?_⟩ | refine ⟨_, _, rfl, ?_, ?_⟩ | refine ⟨_, rfl, ?_⟩ | refine Or.inr (Or.inr (Or.inr ⟨_, _, rfl, ?_⟩)) | exact Or.inl rfl | refine Or.inr ?_)) rfl ?_
      refine ⟨_, ?_, rfl⟩
      rw [this]
      exact (by repeat' (first | exact rfl | exact trivial | exact Or.inr (Or.inl ⟨_, rfl⟩) | exact Or.inr ⟨_, rfl⟩ | exact Or.inl ⟨rfl, rfl⟩ | exact Or.inl rfl | refine Or.inr ⟨_, _, rfl, Nat.zero_le _, rfl, ?_⟩ | refine ⟨_, _, rfl, ?_, ?_⟩ | refine ⟨_, rfl, ?_⟩ | refine Or.inr (Or.inr (Or.inr ⟨_, _, rfl, ?_⟩)) | exact Or.inl rfl | refine Or.inr ?_))
    · have hcl : p.cl = [] := by
        simp [pickB_or, dWds_len] at h1
        exact h1.2
      have : coarseF p = (0, 0) := by
        simp [pickB_or, dWds_len] at h1
        simp [coarseF, h0, h1.1, h1.2]
      have h00 : labelF p.cl = (0, 0) := by rw [hcl]; simp [labelF, badWd]
      refine call_p (enters_of Tryz.func203 (by decide +kernel) rfl) (klabel_spec p.cl (by omega)) (by repeat' (first | exact rfl | exact trivial | exact Or.inr (Or.inl ⟨_, rfl⟩) | exact Or.inr ⟨_, rfl⟩ | exact Or.inl ⟨rfl, rfl⟩ | exact Or.inl rfl | refine Or.inr ⟨_, _, rfl, Nat.zero_le _, rfl, ?_⟩ | refine ⟨_, _, rfl, ?_, ?_⟩ | refine ⟨_, rfl, ?_⟩ | refine Or.inr (Or.inr (Or.inr ⟨_, _, rfl, ?_⟩)) | exact Or.inl rfl | refine Or.inr ?_)) rfl ?_
      refine ⟨_, ?_, rfl⟩
      rw [this, ← h00]
      exact (by repeat' (first | exact rfl | exact trivial | exact Or.inr (Or.inl ⟨_, rfl⟩) | exact Or.inr ⟨_, rfl⟩ | exact Or.inl ⟨rfl, rfl⟩ | exact Or.inl rfl | refine Or.inr ⟨_, _, rfl, Nat.zero_le _, rfl, ?_⟩ | refine ⟨_, _, rfl, ?_, ?_⟩ | refine ⟨_, rfl, ?_⟩ | refine Or.inr (Or.inr (Or.inr ⟨_, _, rfl, ?_⟩)) | exact Or.inl rfl | refine Or.inr ?_))
  have h0 : ¬ p.ck = 0 := of_decide_eq_false h0
  refine br (fun h1 => ?_) (fun h1 => ?_)
  · have h1 : p.ck = 1 := of_decide_eq_true h1
    refine br (fun h2 => ?_) (fun h2 => ?_)
    · have : coarseF p = (20, p.ca) := by
        simp [pickB_and] at h2
        simp only [coarseF, h0, if_false]
        rw [if_neg (by omega), if_pos (by omega)]
      refine call_p (enters_of Tryz.func164 (by decide +kernel) rfl) (bad_spec 20 p.ca) (by repeat' (first | exact rfl | exact trivial | exact Or.inr (Or.inl ⟨_, rfl⟩) | exact Or.inr ⟨_, rfl⟩ | exact Or.inl ⟨rfl, rfl⟩ | exact Or.inl rfl | refine Or.inr ⟨_, _, rfl, Nat.zero_le _, rfl, ?_⟩ | refine ⟨_, _, rfl, ?_, ?_⟩ | refine ⟨_, rfl, ?_⟩ | refine Or.inr (Or.inr (Or.inr ⟨_, _, rfl, ?_⟩)) | exact Or.inl rfl | refine Or.inr ?_)) rfl ?_
      refine ⟨_, ?_, rfl⟩
      rw [this]
      exact (by repeat' (first | exact rfl | exact trivial | exact Or.inr (Or.inl ⟨_, rfl⟩) | exact Or.inr ⟨_, rfl⟩ | exact Or.inl ⟨rfl, rfl⟩ | exact Or.inl rfl | refine Or.inr ⟨_, _, rfl, Nat.zero_le _, rfl, ?_⟩ | refine ⟨_, _, rfl, ?_, ?_⟩ | refine ⟨_, rfl, ?_⟩ | refine Or.inr (Or.inr (Or.inr ⟨_, _, rfl, ?_⟩)) | exact Or.inl rfl | refine Or.inr ?_))
    · have : coarseF p = labelF p.cl := by
        simp [pickB_and] at h2
        simp only [coarseF, h0, if_false]
        rw [if_neg (by omega), if_neg (by omega)]
      refine call_p (enters_of Tryz.func203 (by decide +kernel) rfl) (klabel_spec p.cl (by omega)) (by repeat' (first | exact rfl | exact trivial | exact Or.inr (Or.inl ⟨_, rfl⟩) | exact Or.inr ⟨_, rfl⟩ | exact Or.inl ⟨rfl, rfl⟩ | exact Or.inl rfl | refine Or.inr ⟨_, _, rfl, Nat.zero_le _, rfl, ?_⟩ | refine ⟨_, _, rfl, ?_, ?_⟩ | refine ⟨_, rfl, ?_⟩ | refine Or.inr (Or.inr (Or.inr ⟨_, _, rfl, ?_⟩)) | exact Or.inl rfl | refine Or.inr ?_)) rfl ?_
      refine ⟨_, ?_, rfl⟩
      rw [this]
      exact (by repeat' (first | exact rfl | exact trivial | exact Or.inr (Or.inl ⟨_, rfl⟩) | exact Or.inr ⟨_, rfl⟩ | exact Or.inl ⟨rfl, rfl⟩ | exact Or.inl rfl | refine Or.inr ⟨_, _, rfl, Nat.zero_le _, rfl, ?_⟩ | refine ⟨_, _, rfl, ?_, ?_⟩ | refine ⟨_, rfl, ?_⟩ | refine Or.inr (Or.inr (Or.inr ⟨_, _, rfl, ?_⟩)) | exact Or.inl rfl | refine Or.inr ?_))
  have h1 : ¬ p.ck = 1 := of_decide_eq_false h1
  refine br (fun h3 => ?_) (fun h3 => ?_)
  · have h3 : p.ck = 2 := of_decide_eq_true h3
    refine br (fun h2 => ?_) (fun h2 => ?_)
    · have : coarseF p = (20, p.ca) := by
        simp [pickB_and] at h2
        simp only [coarseF, h0, if_false]
        rw [if_neg (by omega), if_pos (by omega)]
      refine call_p (enters_of Tryz.func164 (by decide +kernel) rfl) (bad_spec 20 p.ca) (by repeat' (first | exact rfl | exact trivial | exact Or.inr (Or.inl ⟨_, rfl⟩) | exact Or.inr ⟨_, rfl⟩ | exact Or.inl ⟨rfl, rfl⟩ | exact Or.inl rfl | refine Or.inr ⟨_, _, rfl, Nat.zero_le _, rfl, ?_⟩ | refine ⟨_, _, rfl, ?_, ?_⟩ | refine ⟨_, rfl, ?_⟩ | refine Or.inr (Or.inr (Or.inr ⟨_, _, rfl, ?_⟩)) | exact Or.inl rfl | refine Or.inr ?_)) rfl ?_
      refine ⟨_, ?_, rfl⟩
      rw [this]
      exact (by repeat' (first | exact rfl | exact trivial | exact Or.inr (Or.inl ⟨_, rfl⟩) | exact Or.inr ⟨_, rfl⟩ | exact Or.inl ⟨rfl, rfl⟩ | exact Or.inl rfl | refine Or.inr ⟨_, _, rfl, Nat.zero_le _, rfl, ?_⟩ | refine ⟨_, _, rfl, ?_, ?_⟩ | refine ⟨_, rfl, ?_⟩ | refine Or.inr (Or.inr (Or.inr ⟨_, _, rfl, ?_⟩)) | exact Or.inl rfl | refine Or.inr ?_))
    · have : coarseF p = labelF p.cl := by
        simp [pickB_and] at h2
        simp only [coarseF, h0, if_false]
        rw [if_neg (by omega), if_neg (by omega)]
      refine call_p (enters_of Tryz.func203 (by decide +kernel) rfl) (klabel_spec p.cl (by omega)) (by repeat' (first | exact rfl | exact trivial | exact Or.inr (Or.inl ⟨_, rfl⟩) | exact Or.inr ⟨_, rfl⟩ | exact Or.inl ⟨rfl, rfl⟩ | exact Or.inl rfl | refine Or.inr ⟨_, _, rfl, Nat.zero_le _, rfl, ?_⟩ | refine ⟨_, _, rfl, ?_, ?_⟩ | refine ⟨_, rfl, ?_⟩ | refine Or.inr (Or.inr (Or.inr ⟨_, _, rfl, ?_⟩)) | exact Or.inl rfl | refine Or.inr ?_)) rfl ?_
      refine ⟨_, ?_, rfl⟩
      rw [this]
      exact (by repeat' (first | exact rfl | exact trivial | exact Or.inr (Or.inl ⟨_, rfl⟩) | exact Or.inr ⟨_, rfl⟩ | exact Or.inl ⟨rfl, rfl⟩ | exact Or.inl rfl | refine Or.inr ⟨_, _, rfl, Nat.zero_le _, rfl, ?_⟩ | refine ⟨_, _, rfl, ?_, ?_⟩ | refine ⟨_, rfl, ?_⟩ | refine Or.inr (Or.inr (Or.inr ⟨_, _, rfl, ?_⟩)) | exact Or.inl rfl | refine Or.inr ?_))
  have h3 : ¬ p.ck = 2 := of_decide_eq_false h3
  refine br (fun h4 => ?_) (fun h4 => ?_)
  · have h4 : p.ck = 3 := of_decide_eq_true h4
    refine br (fun h2 => ?_) (fun h2 => ?_)
    · have : coarseF p = (20, p.ca) := by
        simp [pickB_and] at h2
        simp only [coarseF, h0, if_false]
        rw [if_neg (by omega), if_pos (by omega)]
      refine call_p (enters_of Tryz.func164 (by decide +kernel) rfl) (bad_spec 20 p.ca) (by repeat' (first | exact rfl | exact trivial | exact Or.inr (Or.inl ⟨_, rfl⟩) | exact Or.inr ⟨_, rfl⟩ | exact Or.inl ⟨rfl, rfl⟩ | exact Or.inl rfl | refine Or.inr ⟨_, _, rfl, Nat.zero_le _, rfl, ?_⟩ | refine ⟨_, _, rfl, ?_, ?_⟩ | refine ⟨_, rfl, ?_⟩ | refine Or.inr (Or.inr (Or.inr ⟨_, _, rfl, ?_⟩)) | exact Or.inl rfl | refine Or.inr ?_)) rfl ?_
      refine ⟨_, ?_, rfl⟩
      rw [this]
      exact (by repeat' (first | exact rfl | exact trivial | exact Or.inr (Or.inl ⟨_, rfl⟩) | exact Or.inr ⟨_, rfl⟩ | exact Or.inl ⟨rfl, rfl⟩ | exact Or.inl rfl | refine Or.inr ⟨_, _, rfl, Nat.zero_le _, rfl, ?_⟩ | refine ⟨_, _, rfl, ?_, ?_⟩ | refine ⟨_, rfl, ?_⟩ | refine Or.inr (Or.inr (Or.inr ⟨_, _, rfl, ?_⟩)) | exact Or.inl rfl | refine Or.inr ?_))
    · have : coarseF p = labelF p.cl := by
        simp [pickB_and] at h2
        simp only [coarseF, h0, if_false]
        rw [if_neg (by omega), if_neg (by omega)]
      refine call_p (enters_of Tryz.func203 (by decide +kernel) rfl) (klabel_spec p.cl (by omega)) (by repeat' (first | exact rfl | exact trivial | exact Or.inr (Or.inl ⟨_, rfl⟩) | exact Or.inr ⟨_, rfl⟩ | exact Or.inl ⟨rfl, rfl⟩ | exact Or.inl rfl | refine Or.inr ⟨_, _, rfl, Nat.zero_le _, rfl, ?_⟩ | refine ⟨_, _, rfl, ?_, ?_⟩ | refine ⟨_, rfl, ?_⟩ | refine Or.inr (Or.inr (Or.inr ⟨_, _, rfl, ?_⟩)) | exact Or.inl rfl | refine Or.inr ?_)) rfl ?_
      refine ⟨_, ?_, rfl⟩
      rw [this]
      exact (by repeat' (first | exact rfl | exact trivial | exact Or.inr (Or.inl ⟨_, rfl⟩) | exact Or.inr ⟨_, rfl⟩ | exact Or.inl ⟨rfl, rfl⟩ | exact Or.inl rfl | refine Or.inr ⟨_, _, rfl, Nat.zero_le _, rfl, ?_⟩ | refine ⟨_, _, rfl, ?_, ?_⟩ | refine ⟨_, rfl, ?_⟩ | refine Or.inr (Or.inr (Or.inr ⟨_, _, rfl, ?_⟩)) | exact Or.inl rfl | refine Or.inr ?_))
  have h4 : ¬ p.ck = 3 := of_decide_eq_false h4
  have : coarseF p = (14, p.ca) := by
    simp only [coarseF, h0, if_false]
    rw [if_pos (by omega)]
  refine call_p (enters_of Tryz.func164 (by decide +kernel) rfl) (bad_spec 14 p.ca) (by repeat' (first | exact rfl | exact trivial | exact Or.inr (Or.inl ⟨_, rfl⟩) | exact Or.inr ⟨_, rfl⟩ | exact Or.inl ⟨rfl, rfl⟩ | exact Or.inl rfl | refine Or.inr ⟨_, _, rfl, Nat.zero_le _, rfl, ?_⟩ | refine ⟨_, _, rfl, ?_, ?_⟩ | refine ⟨_, rfl, ?_⟩ | refine Or.inr (Or.inr (Or.inr ⟨_, _, rfl, ?_⟩)) | exact Or.inl rfl | refine Or.inr ?_)) rfl ?_
  refine ⟨_, ?_, rfl⟩
  rw [this]
  exact (by repeat' (first | exact rfl | exact trivial | exact Or.inr (Or.inl ⟨_, rfl⟩) | exact Or.inr ⟨_, rfl⟩ | exact Or.inl ⟨rfl, rfl⟩ | exact Or.inl rfl | refine Or.inr ⟨_, _, rfl, Nat.zero_le _, rfl, ?_⟩ | refine ⟨_, _, rfl, ?_, ?_⟩ | refine ⟨_, rfl, ?_⟩ | refine Or.inr (Or.inr (Or.inr ⟨_, _, rfl, ?_⟩)) | exact Or.inl rfl | refine Or.inr ?_))
end Go.Proofs.YtmphiikdhifhjaaGreat
set_option maxRecDepth 100000
namespace Go.Proofs.YtmphiikdhifhjaaGreat
open Go Go.RowKit Dv Tryz

theorem wd_guard (w : World) (x y : Operand) (vs vs' : Array Value) : (eqGuard .neq 25 x y (.agg vs) (.agg vs')).run Tryz.prog w = .ok () w := by
  have h : Tryz.prog.eqGuardType Tryz.prog.depth 25 = false := by kernel_rfl
  simp [eqGuard, run_program, h]
theorem wd_neq (a b : ByteArray) (p q : Int) (w : World) : (binOp .neq 25 (.agg #[.string a, .int .i64 p]) (.agg #[.string b, .int .i64 q])).run Tryz.prog w = .ok (.bool (!(decide (a = b) && decide (p = q)))) w := by
  have hf : Tryz.prog.underlying 25 = some (.struct (Tryz.prog.fieldsOf 25)) := by simp [Program.fieldsOf, Tryz.underlying25]
  have hf2 : (Tryz.prog.fieldsOf 25).toList = [⟨ "Name", 9, 0, false, "", "", 0⟩, ⟨ "At", 3, 1, false, "", "", 16⟩] := by simp [Program.fieldsOf, Tryz.underlying25]
  have hs : Tryz.prog.stoodInHeld 25 = false := by kernel_rfl
  have hm : ∃ d, Op.maxDepth = d + 1 + 1 := ⟨Op.maxDepth - 2, by decide⟩
  obtain ⟨d, hm⟩ := hm
  have he : (Op.equal 25 (.agg #[.string a, .int .i64 p]) (.agg #[.string b, .int .i64 q])).run Tryz.prog w = .ok (decide (a = b) && decide (p = q)) w := by
    unfold Op.equal
    rw [hm, run_equalIn_struct w (d + 1) 25 _ _ hf hs, hf2]
    have e1 : (a.toList == b.toList) = decide (a = b) := by
      rw [ByteArray.toList_eq, ByteArray.toList_eq]
      by_cases h : a = b
      · subst h; simp
      · have : ¬ a.data = b.data := fun e => h (ByteArray.ext e)
        simp [h, this]
    have q9 : ∀ cs : Array Value, ∀ off v, cs[off]? = some v → (part 9 cs off).run Tryz.prog w = .ok v w := fun cs off v h => by
      simp [part, Tryz.isAgg9, h]
    have q3 : ∀ cs : Array Value, ∀ off v, cs[off]? = some v → (part 3 cs off).run Tryz.prog w = .ok v w := fun cs off v h => by
      simp [part, Tryz.isAgg3, h]
    simp only [Op.eqFields, ne_eq, String.reduceEq, not_false_eq_true, if_true, Sem.run_bind, q9 #[.string a, .int .i64 p] 0 (.string a) rfl, q9 #[.string b, .int .i64 q] 0 (.string b) rfl, Result.andThen_ok, run_equalIn_string w d 9 a b Tryz.underlying9, e1]
    by_cases h : a = b
    · simp only [h, decide_true, Bool.not_true, Bool.false_eq_true, if_false, Sem.run_bind, q3 #[.string b, .int .i64 p] 1 (.int .i64 p) rfl, q3 #[.string b, .int .i64 q] 1 (.int .i64 q) rfl, Result.andThen_ok, run_equalIn_int w d 3 .i64 .i64 p q Tryz.underlying3]
      by_cases h2 : p = q <;> simp [h2, Sem.run_pure]
    · simp [h, Sem.run_pure]
  show ((do let r ← Op.equal 25 _ _; pure (Value.bool !r)) : Sem Value).run Tryz.prog w = _
  simp only [Sem.run_bind, he, Result.andThen_ok, Sem.run_pure]

theorem weq_cmp (x y : Operand) (a b : Wd) : AggCmp Tryz.prog .neq x y 25 (dWd a) (dWd b) (!(decide (a.s = b.s) && decide (a.a = b.a))) :=
  ⟨[.string a.s, .int .i64 a.a], [.string b.s, .int .i64 b.a], rfl, rfl, fun w => ⟨wd_guard w x y _ _, wd_neq a.s b.s a.a b.a w⟩⟩

def eqWds : List Wd → List Wd → Bool
  | [], [] => true
  | x :: r, y :: s => (decide (x.s = y.s) && decide (x.a = y.a)) && eqWds r s
  | _, _ => false
theorem eqWds_len : ∀ {a b : List Wd}, a.length ≠ b.length → eqWds a b = false
  | [], [], h => (h rfl).elim
  | [], _ :: _, _ => rfl
  | _ :: _, [], _ => rfl
  | x :: r, y :: s, h => by
    simp only [eqWds]
    rw [eqWds_len (a := r) (b := s) (by simpa using h), Bool.and_false]
theorem eqWds_plain : ∀ a b : List Wd, eqWds (plainW a) (plainW b) = sameWds a b
  | [], [] => rfl
  | [], _ :: _ => rfl
  | _ :: _, [] => rfl
  | x :: r, y :: s => by
    have := eqWds_plain r s
    simp only [plainW, List.map_cons, eqWds, sameWds] at this ⊢
    rw [this]
    simp

abbrev eqwSt (a b : List Wd) (e : Nat) : St :=
  ⟨[(0, ⟨[], .sl 2 (dWds a) none⟩), (1, ⟨[], .sl 2 (dWds b) none⟩), (12, ⟨[], .v (.int .i64 (dWds a).length)⟩), (13, ⟨[], .v (.int .i64 e)⟩)], [], []⟩

theorem equalW_spec (a b : List Wd) (hs : a.length ≤ 1099511627776) :
    EvP Tryz.prog 232 [.sl 2 (dWds a) none, .sl 2 (dWds b) none] (.v (.bool (eqWds a b))) := by
  refine ev_go (P := Tryz.prog) tt tt_ok 5000 26 [.tmp 4] Tryz.func232 rfl Tryz.ntmps232 rfl (Nat.le_of_ble_eq_true rfl) (fun E9 w9 hn9 hm9 => ?_)
  refine br (fun h => ?_) (fun h => ?_)
  · have hne : a.length ≠ b.length := by have := h; simp [dWds_len] at this; omega
    exact congrArg (fun b => DV.v (.bool b)) (eqWds_len hne).symm
  · have hl : a.length = b.length := by have := h; simp [dWds_len] at this; omega
    refine loop_i (fun j st => ∃ e : Nat, st = eqwSt a b e ∧ e ≤ a.length ∧ eqWds a b = eqWds (a.drop e) (b.drop e) ∧ j = a.length - e) a.length
      (eqwSt a b 0) (weak_mk ⟨_, rfl⟩ (by repeat' (first | exact rfl | exact we_rfl rfl | refine ⟨_, _, rfl, ?_, ?_⟩)) rfl rfl rfl (by repeat' (first | exact trivial | exact we_rfl rfl | refine ⟨⟨_, rfl, ?_⟩, ?_⟩))) ⟨0, rfl, by omega, rfl, by omega⟩ ?_
    rintro j st ⟨e, rfl, he, heq, rfl⟩
    refine br (fun h => ?_) (fun h => ?_)
    · have hlt : e < a.length := by simpa [dWds_len] using h
      obtain ⟨x, hx⟩ : ∃ x, a[e]? = some x := ⟨_, List.getElem?_eq_getElem hlt⟩
      obtain ⟨y, hy⟩ : ∃ y, b[e]? = some y := ⟨_, List.getElem?_eq_getElem (hl ▸ hlt)⟩
      rw [drop_cons hx, drop_cons hy] at heq
      refine drawG_i (fun _ => false) mo (by decide +kernel) ?_
      refine ⟨dWd x, ⟨by omega, dWds_get hx⟩, dWd y, ⟨by omega, dWds_get hy⟩, _, weq_cmp _ _ x y, ?_⟩
      refine br (fun h => ?_) (fun h => ?_)
      · have hne : (decide (x.s = y.s) && decide (x.a = y.a)) = false := by
          have h : (!(decide (x.s = y.s) && decide (x.a = y.a))) = true := h
          revert h
          cases (decide (x.s = y.s) && decide (x.a = y.a)) <;> decide
        refine (congrArg (fun b => DV.v (.bool b)) ?_ : _ = _)
        rw [heq]
        simp only [eqWds, hne, Bool.false_and]
      · have hne : (decide (x.s = y.s) && decide (x.a = y.a)) = true := by
          have h : (!(decide (x.s = y.s) && decide (x.a = y.a))) = false := h
          revert h
          cases (decide (x.s = y.s) && decide (x.a = y.a)) <;> decide
        refine ⟨eqwSt a b (e + 1), (weak_mk ⟨_, rfl⟩ (by repeat' (first | exact rfl | exact we_rfl rfl | refine ⟨_, _, rfl, ?_, ?_⟩)) rfl rfl rfl (by repeat' (first | exact trivial | exact we_rfl rfl | exact we_int (nxt hlt (by omega)) | refine ⟨⟨_, rfl, ?_⟩, ?_⟩))), a.length - (e + 1), by omega, e + 1, rfl, by omega, ?_, rfl⟩
        rw [heq]
        simp only [eqWds, hne, Bool.true_and]
    · have hge : e = a.length := by have := h; simp [dWds_len] at this; omega
      refine (congrArg (fun b => DV.v (.bool b)) ?_ : _ = _)
      rw [heq, hge, hl]
      simp [eqWds]
      rw [← hl]
      simp [eqWds]

theorem sameWords_spec (a b : List Wd) (ha : wdsWt a ≤ 1099511627776) (hb : wdsWt b ≤ 1099511627776) :
    EvP Tryz.prog 225 [.sl 2 (dWds a) none, .sl 2 (dWds b) none] (.v (.bool (sameWds a b))) := by
  have hl := wdsWt_len a
  refine ev_go (P := Tryz.prog) tt tt_ok 5000 10 [.tmp 4] Tryz.func225 rfl Tryz.ntmps225 rfl (Nat.le_of_ble_eq_true rfl) (fun E9 w9 hn9 hm9 => ?_)
  refine call_p (enters_of Tryz.func158 (by decide +kernel) rfl) (words_spec a ha) (by repeat' (first | exact rfl | exact trivial | exact Or.inr (Or.inl ⟨_, rfl⟩) | exact Or.inr ⟨_, rfl⟩ | exact Or.inl ⟨rfl, rfl⟩ | exact Or.inl rfl | refine Or.inr ⟨_, _, rfl, Nat.zero_le _, rfl, ?_⟩ | refine ⟨_, _, rfl, ?_, ?_⟩ | refine ⟨_, rfl, ?_⟩ | refine Or.inr (Or.inr (Or.inr ⟨_, _, rfl, ?_⟩)) | exact Or.inl rfl | refine Or.inr ?_)) rfl ?_
  refine call_p (enters_of Tryz.func158 (by decide +kernel) rfl) (words_spec b hb) (by repeat' (first | exact rfl | exact trivial | exact Or.inr (Or.inl ⟨_, rfl⟩) | exact Or.inr ⟨_, rfl⟩ | exact Or.inl ⟨rfl, rfl⟩ | exact Or.inl rfl | refine Or.inr ⟨_, _, rfl, Nat.zero_le _, rfl, ?_⟩ | refine ⟨_, _, rfl, ?_, ?_⟩ | refine ⟨_, rfl, ?_⟩ | refine Or.inr (Or.inr (Or.inr ⟨_, _, rfl, ?_⟩)) | exact Or.inl rfl | refine Or.inr ?_)) rfl ?_
  refine call_p (enters_of Tryz.func232 (by decide +kernel) rfl) (equalW_spec (plainW a) (plainW b) (by simp [plainW]; omega)) (by repeat' (first | exact rfl | exact trivial | exact Or.inr (Or.inl ⟨_, rfl⟩) | exact Or.inr ⟨_, rfl⟩ | exact Or.inl ⟨rfl, rfl⟩ | exact Or.inl rfl | refine Or.inr ⟨_, _, rfl, Nat.zero_le _, rfl, ?_⟩ | refine ⟨_, _, rfl, ?_, ?_⟩ | refine ⟨_, rfl, ?_⟩ | refine Or.inr (Or.inr (Or.inr ⟨_, _, rfl, ?_⟩)) | exact Or.inl rfl | refine Or.inr ?_)) rfl ?_
  refine (congrArg (fun b => DV.v (.bool b)) ?_ : _ = _)
  exact eqWds_plain a b
end Go.Proofs.YtmphiikdhifhjaaGreat
set_option maxRecDepth 100000
namespace Go.Proofs.YtmphiikdhifhjaaGreat
open Go Go.RowKit Dv Tryz

/-- Parts, one by one. -/
def eqPts (F : Ph → Ty → Ph → Ty → Bool) : Pts → Pts → Bool
  | .nil, .nil => true
  | .cons p t r, .cons q u s => F p t q u && eqPts F r s
  | _, _ => false
theorem eqPts_len {F : Ph → Ty → Ph → Ty → Bool} : ∀ {a b : Pts}, a.len ≠ b.len → eqPts F a b = false
  | .nil, .nil, h => (h rfl).elim
  | .cons p t r, .cons q u s, h => by
    simp only [eqPts]
    rw [eqPts_len (a := r) (b := s) (by simpa [Pts.len] using h), Bool.and_false]
  | .nil, .cons _ _ _, _ => rfl
  | .cons _ _ _, .nil, _ => rfl

def samePartB (p : Ph) (t : Ty) (q : Ph) (u : Ty) : Bool := decide (p.name.s = q.name.s) && plainP p q && sameTy t u
theorem eqPts_same : ∀ a b : Pts, eqPts samePartB a b = samePts a b
  | .nil, .nil => by simp [eqPts, samePts]
  | .cons p t r, .cons q u s => by simp only [eqPts, samePts, samePartB, eqPts_same r s]
  | .nil, .cons _ _ _ => by simp [eqPts, samePts]
  | .cons _ _ _, .nil => by simp [eqPts, samePts]

abbrev eqpSt (a b : Pts) (g e : Nat) : St :=
  ⟨[(1, ⟨[], .sl 18 (dPts b) none⟩), (2, ⟨[], .fn g [] []⟩), (15, ⟨[], .sl 18 (dPts a) none⟩), (16, ⟨[], .v (.int .i64 (dPts a).length)⟩), (17, ⟨[], .v (.int .i64 e)⟩)], [], []⟩

theorem equalP_spec (g : Nat) (hen : Enters Tryz.prog g) (F : Ph → Ty → Ph → Ty → Bool) (a b : Pts) (hs : a.wt ≤ 1099511627776)
    (hF : ∀ (e : Nat) p t q u, a.toList[e]? = some (p, t) → b.toList[e]? = some (q, u) → EvP Tryz.prog g [.agg (dPh p (dTy t)), .agg (dPh q (dTy u))] (.v (.bool (F p t q u)))) :
    EvP Tryz.prog 233 [.sl 18 (dPts a) none, .sl 18 (dPts b) none, .fn g [] []] (.v (.bool (eqPts F a b))) := by
  have hal := a.wt_len
  refine ev_go (P := Tryz.prog) tt tt_ok 5000 32 [.tmp 6] Tryz.func233 rfl Tryz.ntmps233 rfl (Nat.le_of_ble_eq_true rfl) (fun E9 w9 hn9 hm9 => ?_)
  refine br (fun h => ?_) (fun h => ?_)
  · have hne : a.len ≠ b.len := by have := h; simp [dPts_len] at this; omega
    exact congrArg (fun b => DV.v (.bool b)) (eqPts_len hne).symm
  · have hl : a.len = b.len := by have := h; simp [dPts_len] at this; omega
    refine loop_i (fun j st => ∃ e : Nat, st = eqpSt a b g e ∧ e ≤ a.len ∧ eqPts F a b = eqPts F (a.drop e) (b.drop e) ∧ j = a.len - e) a.len
      (eqpSt a b g 0) (weak_mk ⟨_, rfl⟩ (by repeat' (first | exact rfl | exact we_rfl rfl | refine ⟨_, _, rfl, ?_, ?_⟩)) rfl rfl rfl (by repeat' (first | exact trivial | exact we_rfl rfl | refine ⟨⟨_, rfl, ?_⟩, ?_⟩))) ⟨0, rfl, by omega, rfl, by omega⟩ ?_
    rintro j st ⟨e, rfl, he, heq, rfl⟩
    refine br (fun h => ?_) (fun h => ?_)
    · have hlt : e < a.len := by simpa [dPts_len] using h
      obtain ⟨p, t, hx⟩ := Pts.get_lt hlt
      obtain ⟨q, u, hy⟩ := Pts.get_lt (hl ▸ hlt)
      rw [Pts.drop_cons hx, Pts.drop_cons hy] at heq
      have hev := hF e p t q u hx hy
      obtain ⟨t, ts⟩ := t
      obtain ⟨u, us⟩ := u
      refine ⟨_, ⟨by omega, dPts_get hx⟩, ?_⟩
      refine ⟨_, ⟨by omega, dPts_get hy⟩, ?_⟩
      refine call_p hen hev (by repeat' (first | exact rfl | exact trivial | exact Or.inr (Or.inl ⟨_, rfl⟩) | exact Or.inr ⟨_, rfl⟩ | exact Or.inl ⟨rfl, rfl⟩ | exact Or.inl rfl | refine Or.inr ⟨_, _, rfl, Nat.zero_le _, rfl, ?_⟩ | refine ⟨_, _, rfl, ?_, ?_⟩ | refine ⟨_, rfl, ?_⟩ | refine Or.inr (Or.inr (Or.inr ⟨_, _, rfl, ?_⟩)) | exact Or.inl rfl | refine Or.inr ?_)) rfl ?_
      refine br (fun h => ?_) (fun h => ?_)
      · have hne : F p (.mk t ts) q (.mk u us) = false := by simpa using h
        refine (congrArg (fun b => DV.v (.bool b)) ?_ : _ = _)
        rw [heq]
        simp only [eqPts, hne, Bool.false_and]
      · have hne : F p (.mk t ts) q (.mk u us) = true := by simpa using h
        refine ⟨eqpSt a b g (e + 1), (weak_mk ⟨_, rfl⟩ (by repeat' (first | exact rfl | exact we_rfl rfl | refine ⟨_, _, rfl, ?_, ?_⟩)) rfl rfl rfl (by repeat' (first | exact trivial | exact we_rfl rfl | exact we_int (nxt hlt (by omega)) | refine ⟨⟨_, rfl, ?_⟩, ?_⟩))), a.len - (e + 1), by omega, e + 1, rfl, by omega, ?_, rfl⟩
        rw [heq]
        simp only [eqPts, hne, Bool.true_and]
    · have hge : e = a.len := by have := h; simp [dPts_len] at this; omega
      refine (congrArg (fun b => DV.v (.bool b)) ?_ : _ = _)
      rw [heq, hge, Pts.drop_len, hl, Pts.drop_len]
      simp [eqPts]

theorem samePart_of (p q : Ph) (t u : Ty) (hp : p.wt ≤ 1099511627776) (hq : q.wt ≤ 1099511627776)
    (ht : EvP Tryz.prog 226 [.agg (dTy t), .agg (dTy u)] (.v (.bool (sameTy t u)))) :
    EvP Tryz.prog 202 [.agg (dPh p (dTy t)), .agg (dPh q (dTy u))] (.v (.bool (samePartB p t q u))) := by
  simp only [Ph.wt] at hp hq
  obtain ⟨th, tps⟩ := t
  obtain ⟨uh, ups⟩ := u
  refine ev_go (P := Tryz.prog) tt tt_ok 5000 71 [.tmp 4] Tryz.func202 rfl Tryz.ntmps202 rfl (Nat.le_of_ble_eq_true rfl) (fun E9 w9 hn9 hm9 => ?_)
  have e0 : samePartB p (.mk th tps) q (.mk uh ups) = (((decide (p.name.s = q.name.s) && (p.bare == q.bare)) && decide (p.wide = q.wide)) && sameWds p.label q.label && ((decide (p.ck = q.ck) && decide (p.cn = q.cn)) && sameWds p.cl q.cl) && sameTy (.mk th tps) (.mk uh ups)) := by
    simp only [samePartB, plainP, Bool.and_assoc]
  rw [e0]
  refine br (fun hA => ?_) (fun hA => ?_)
  · simp only [pickB_and] at hA
    refine call_p (enters_of Tryz.func225 (by decide +kernel) rfl) (sameWords_spec p.label q.label (by omega) (by omega)) (by repeat' (first | exact rfl | exact trivial | exact Or.inr (Or.inl ⟨_, rfl⟩) | exact Or.inr ⟨_, rfl⟩ | exact Or.inl ⟨rfl, rfl⟩ | exact Or.inl rfl | refine Or.inr ⟨_, _, rfl, Nat.zero_le _, rfl, ?_⟩ | refine ⟨_, _, rfl, ?_, ?_⟩ | refine ⟨_, rfl, ?_⟩ | refine Or.inr (Or.inr (Or.inr ⟨_, _, rfl, ?_⟩)) | exact Or.inl rfl | refine Or.inr ?_)) rfl ?_
    refine br (fun hB => ?_) (fun hB => ?_)
    · simp only [pickB_and] at hB
      refine call_p (enters_of Tryz.func225 (by decide +kernel) rfl) (sameWords_spec p.cl q.cl (by omega) (by omega)) (by repeat' (first | exact rfl | exact trivial | exact Or.inr (Or.inl ⟨_, rfl⟩) | exact Or.inr ⟨_, rfl⟩ | exact Or.inl ⟨rfl, rfl⟩ | exact Or.inl rfl | refine Or.inr ⟨_, _, rfl, Nat.zero_le _, rfl, ?_⟩ | refine ⟨_, _, rfl, ?_, ?_⟩ | refine ⟨_, rfl, ?_⟩ | refine Or.inr (Or.inr (Or.inr ⟨_, _, rfl, ?_⟩)) | exact Or.inl rfl | refine Or.inr ?_)) rfl ?_
      refine br (fun hC => ?_) (fun hC => ?_)
      · refine call_p (enters_of Tryz.func226 (by decide +kernel) rfl) (ht) (by repeat' (first | exact rfl | exact trivial | exact Or.inr (Or.inl ⟨_, rfl⟩) | exact Or.inr ⟨_, rfl⟩ | exact Or.inl ⟨rfl, rfl⟩ | exact Or.inl rfl | refine Or.inr ⟨_, _, rfl, Nat.zero_le _, rfl, ?_⟩ | refine ⟨_, _, rfl, ?_, ?_⟩ | refine ⟨_, rfl, ?_⟩ | refine Or.inr (Or.inr (Or.inr ⟨_, _, rfl, ?_⟩)) | exact Or.inl rfl | refine Or.inr ?_)) rfl ?_
        refine (congrArg (fun b => DV.v (.bool b)) ?_ : _ = _)
        simp only [pickB_and, Bool.true_and, Bool.and_true] at hC ⊢
        simp_all
      · refine (congrArg (fun b => DV.v (.bool b)) ?_ : _ = _)
        simp only [pickB_and, Bool.true_and, Bool.and_true] at hC ⊢
        simp_all
    · simp only [pickB_and] at hB
      refine br (fun hC => ?_) (fun hC => ?_)
      · exfalso
        simp [pickB_and] at hC
      · refine (congrArg (fun b => DV.v (.bool b)) ?_ : _ = _)
        simp_all
  · simp only [pickB_and, beq_true] at hA
    refine br (fun hB => ?_) (fun hB => ?_)
    · refine call_p (enters_of Tryz.func225 (by decide +kernel) rfl) (sameWords_spec p.cl q.cl (by omega) (by omega)) (by repeat' (first | exact rfl | exact trivial | exact Or.inr (Or.inl ⟨_, rfl⟩) | exact Or.inr ⟨_, rfl⟩ | exact Or.inl ⟨rfl, rfl⟩ | exact Or.inl rfl | refine Or.inr ⟨_, _, rfl, Nat.zero_le _, rfl, ?_⟩ | refine ⟨_, _, rfl, ?_, ?_⟩ | refine ⟨_, rfl, ?_⟩ | refine Or.inr (Or.inr (Or.inr ⟨_, _, rfl, ?_⟩)) | exact Or.inl rfl | refine Or.inr ?_)) rfl ?_
      refine (congrArg (fun b => DV.v (.bool b)) ?_ : _ = _)
      rw [hA]
      rfl
    · refine (congrArg (fun b => DV.v (.bool b)) ?_ : _ = _)
      rw [hA]
      rfl

theorem ksame_any : ∀ (n : Nat) (a b : Ty), a.wt ≤ n → a.wt ≤ 1099511627776 → b.wt ≤ 1099511627776 →
    EvP Tryz.prog 226 [.agg (dTy a), .agg (dTy b)] (.v (.bool (sameTy a b)))
  | 0, a, b, hn, _, _ => by have := a.wt_pos; omega
  | n + 1, .mk h ps, .mk k qs, hn, hbig, hbig2 => by
    have ih := ksame_any n
    simp only [Ty.wt, Hd.wt] at hn hbig hbig2
    have hE : EvP Tryz.prog 233 [.sl 18 (dPts ps) none, .sl 18 (dPts qs) none, .fn 202 [] []] (.v (.bool (samePts ps qs))) := by
      rw [← eqPts_same]
      refine equalP_spec 202 (enters_of Tryz.func202 (by decide +kernel) rfl) samePartB ps qs (by omega) fun e p t q u hx hy => ?_
      have hw1 := Pts.wt_mem (List.mem_of_getElem? hx)
      have hw2 := Pts.wt_mem (List.mem_of_getElem? hy)
      exact samePart_of p q t u (by omega) (by omega) (ih t u (by omega) (by omega) (by omega))
    refine ev_go (P := Tryz.prog) tt tt_ok 5000 53 [.tmp 4] Tryz.func226 rfl Tryz.ntmps226 rfl (Nat.le_of_ble_eq_true rfl) (fun E9 w9 hn9 hm9 => ?_)
    refine br (fun hA => ?_) (fun hA => ?_)
    · simp [pickB_or] at hA
      obtain ⟨⟨⟨⟨e1, e2⟩, e3⟩, e4⟩, e5⟩ := hA
      refine call_p (enters_of Tryz.func225 (by decide +kernel) rfl) (sameWords_spec h.names k.names (by omega) (by omega)) (by repeat' (first | exact rfl | exact trivial | exact Or.inr (Or.inl ⟨_, rfl⟩) | exact Or.inr ⟨_, rfl⟩ | exact Or.inl ⟨rfl, rfl⟩ | exact Or.inl rfl | refine Or.inr ⟨_, _, rfl, Nat.zero_le _, rfl, ?_⟩ | refine ⟨_, _, rfl, ?_, ?_⟩ | refine ⟨_, rfl, ?_⟩ | refine Or.inr (Or.inr (Or.inr ⟨_, _, rfl, ?_⟩)) | exact Or.inl rfl | refine Or.inr ?_)) rfl ?_
      refine br (fun hB => ?_) (fun hB => ?_)
      · refine (congrArg (fun b => DV.v (.bool b)) ?_ : _ = _)
        simp [pickB_or, e1, e2, e3, e4, e5] at hB
        simp [sameTy, sameHd, hB]
      · simp [pickB_or, e1, e2, e3, e4, e5] at hB
        refine call_p (enters_of Tryz.func233 (by decide +kernel) rfl) (hE) (by repeat' (first | exact rfl | exact trivial | exact Or.inr (Or.inl ⟨_, rfl⟩) | exact Or.inr ⟨_, rfl⟩ | exact Or.inl ⟨rfl, rfl⟩ | exact Or.inl rfl | refine Or.inr ⟨_, _, rfl, Nat.zero_le _, rfl, ?_⟩ | refine ⟨_, _, rfl, ?_, ?_⟩ | refine ⟨_, rfl, ?_⟩ | refine Or.inr (Or.inr (Or.inr ⟨_, _, rfl, ?_⟩)) | exact Or.inl rfl | refine Or.inr ?_)) rfl ?_
        refine (congrArg (fun b => DV.v (.bool b)) ?_ : _ = _)
        simp [sameTy, sameHd, e1, e2, e3, e4, e5, hB]
    · refine (congrArg (fun b => DV.v (.bool b)) ?_ : _ = _)
      simp [pickB_or] at hA
      simp only [sameTy, sameHd]
      grind

theorem ksame_spec (a b : Ty) (ha : a.wt ≤ 1099511627776) (hb : b.wt ≤ 1099511627776) : EvP Tryz.prog 226 [.agg (dTy a), .agg (dTy b)] (.v (.bool (sameTy a b))) := ksame_any _ a b (Nat.le_refl _) ha hb
end Go.Proofs.YtmphiikdhifhjaaGreat
set_option maxRecDepth 100000
namespace Go.Proofs.YtmphiikdhifhjaaGreat
open Go Go.RowKit Dv Tryz

/-- Has a type nothing but what is its own? -/
def ownF (h : Hd) (ps : Pts) : Bool :=
  (((((decide (h.kind = 2) || (decide (h.lo = 0) && decide (h.hi = 0))) && ((decide (h.kind = 3) || decide (h.kind = 5)) || decide (h.most = 0))) && (decide (ps.len = 0) || (decide (5 ≤ h.kind) && decide (h.kind ≤ 8)))) &&
    (decide (h.names.length = 0) || decide (h.kind = 4))) && (decide (h.name.s = emptyB) || decide (h.kind = 9)))

theorem kown_spec (h : Hd) (ps : Pts) : EvP Tryz.prog 165 [.agg (dTy (.mk h ps))] (.v (.bool (ownF h ps))) := by
  have l1 : (((dPts ps).length : Int) = 0) = (ps.len = 0) := by rw [dPts_len]; exact propext (by omega)
  have l2 : (((dWds h.names).length : Int) = 0) = (h.names.length = 0) := by rw [dWds_len]; exact propext (by omega)
  have he : (⟨#[]⟩ : ByteArray) = emptyB := rfl
  refine ev_go (P := Tryz.prog) tt tt_ok 5000 67 [.tmp 2] Tryz.func165 rfl Tryz.ntmps165 rfl (Nat.le_of_ble_eq_true rfl) (fun E9 w9 hn9 hm9 => ?_)
  refine br (fun k2 => ?_) (fun k2 => ?_)
  · have k2 : h.kind = 2 := of_decide_eq_true k2
    refine (congrArg (fun b => DV.v (.bool b)) ?_ : _ = _)
    rw [Bool.eq_iff_iff]
    simp [pickB_and, pickB_or, ownF, dPts_len, dWds_len, k2, he]
  have k2 : ¬ h.kind = 2 := of_decide_eq_false k2
  refine br (fun k3 => ?_) (fun k3 => ?_)
  · have k3 : h.kind = 3 := of_decide_eq_true k3
    refine br (fun _ => ?_) (fun hf => ?_)
    · refine (congrArg (fun b => DV.v (.bool b)) ?_ : _ = _)
      rw [Bool.eq_iff_iff]
      simp [pickB_and, pickB_or, ownF, dPts_len, dWds_len, k3, he]
    · exact absurd k3 (of_decide_eq_false hf)
  have k3 : ¬ h.kind = 3 := of_decide_eq_false k3
  refine br (fun k5 => ?_) (fun k5 => ?_)
  · have k5 : h.kind = 5 := of_decide_eq_true k5
    refine (congrArg (fun b => DV.v (.bool b)) ?_ : _ = _)
    rw [Bool.eq_iff_iff]
    simp [pickB_and, pickB_or, ownF, dPts_len, dWds_len, k5, he]
  have k5 : ¬ h.kind = 5 := of_decide_eq_false k5
  refine (congrArg (fun b => DV.v (.bool b)) ?_ : _ = _)
  rw [Bool.eq_iff_iff]
  simp [pickB_and, pickB_or, ownF, dPts_len, dWds_len, k2, k3, k5, he]

theorem samePts_refl : ∀ ps : Pts, samePts ps ps = true := by
  have wr : ∀ l : List Wd, sameWds l l = true := by
    intro l
    induction l with
    | nil => rfl
    | cons x r ih => simp [sameWds, ih]
  have key : ∀ n, (∀ t : Ty, t.wt ≤ n → sameTy t t = true) ∧ (∀ ps : Pts, ps.wt ≤ n → samePts ps ps = true) := by
    intro n
    induction n using Nat.strongRecOn with
    | _ n ih =>
      have hp : ∀ ps : Pts, ps.wt ≤ n → (∀ t : Ty, t.wt + 256 ≤ n → sameTy t t = true) → samePts ps ps = true := by
        intro ps
        induction ps using Pts.rec (motive_1 := fun _ => True) with
        | mk => trivial
        | nil => intros; simp [samePts]
        | cons p t r _ ihr =>
          intro hw ht
          simp only [Pts.wt, Ph.wt] at hw
          simp only [samePts]
          rw [ht t (by omega), ihr (by omega) ht]
          simp [plainP, wr]
      refine ⟨fun t ht => ?_, fun ps hps => ?_⟩
      · obtain ⟨h, ps⟩ := t
        simp only [Ty.wt, Hd.wt] at ht
        simp only [sameTy, sameHd]
        rw [(ih ps.wt (by omega)).2 ps (Nat.le_refl _), wr]
        simp
      · exact hp ps hps fun t ht => (ih t.wt (by omega)).1 t (Nat.le_refl _)
  exact fun ps => (key ps.wt).2 ps (Nat.le_refl _)

theorem ownF_eq (h : Hd) (ps : Pts) : ownF h ps = sameTy (.mk h ps) (mask (.mk h ps)) := by
  have wr : ∀ l : List Wd, sameWds l l = true := by
    intro l
    induction l with
    | nil => rfl
    | cons x r ih => simp [sameWds, ih]
  have wn : ∀ l : List Wd, sameWds l [] = decide (l.length = 0) := by
    intro l; cases l <;> simp [sameWds]
  have pn : ∀ l : Pts, samePts l .nil = decide (l.len = 0) := by
    intro l; cases l <;> simp [samePts, Pts.len]
  have pr := samePts_refl ps
  simp only [mask, sameTy, sameHd, maskHd]
  have e5 : samePts ps (if 4 < h.kind ∧ h.kind < 9 then ps else .nil) = (decide (ps.len = 0) || (decide (5 ≤ h.kind) && decide (h.kind ≤ 8))) := by
    split
    · rename_i hc
      rw [pr, decide_eq_true (by omega : 5 ≤ h.kind), decide_eq_true (by omega : h.kind ≤ 8)]; simp
    · rename_i hc
      rw [pn, Bool.eq_iff_iff]
      simp
      omega
  have e6 : sameWds h.names (if h.kind = 4 then h.names else []) = (decide (h.names.length = 0) || decide (h.kind = 4)) := by
    split
    · rename_i hc; rw [wr]; simp [hc]
    · rename_i hc; rw [wn]; simp [hc]
  rw [e5, e6]
  unfold ownF
  by_cases k2 : h.kind = 2
  · rw [Bool.eq_iff_iff]; simp [k2]; grind
  · by_cases k3 : h.kind = 3 ∨ h.kind = 5
    · by_cases k9 : h.kind = 9
      · omega
      · rw [Bool.eq_iff_iff]; simp [k2, k3, k9]; grind
    · by_cases k9 : h.kind = 9
      · rw [Bool.eq_iff_iff]; simp [k9]; grind
      · rw [Bool.eq_iff_iff]; simp [k2, k3, k9]; grind
end Go.Proofs.YtmphiikdhifhjaaGreat
set_option maxRecDepth 100000
namespace Go.Proofs.YtmphiikdhifhjaaGreat
open Go Go.RowKit Dv Tryz

theorem kempty_spec (p : Ph) (t : Ty) (hp : p.wt ≤ 1099511627776) : EvP Tryz.prog 191 [.agg (dPh p (dTy t))] (.v (.bool (samePartB p zeroTy zeroPh zeroTy))) := by
  obtain ⟨th, tps⟩ := t
  refine ev_go (P := Tryz.prog) tt tt_ok 5000 8 [.tmp 2] Tryz.func191 rfl Tryz.ntmps191 rfl (Nat.le_of_ble_eq_true rfl) (fun E9 w9 hn9 hm9 => ?_)
  refine call_p (enters_of Tryz.func202 (by decide +kernel) rfl) (samePart_of p zeroPh zeroTy zeroTy hp (by decide) (ksame_spec zeroTy zeroTy (by decide) (by decide))) (by repeat' (first | exact rfl | exact trivial | exact Or.inr (Or.inl ⟨_, rfl⟩) | exact Or.inr ⟨_, rfl⟩ | exact Or.inl ⟨rfl, rfl⟩ | exact Or.inl rfl | refine Or.inr ⟨_, _, rfl, Nat.zero_le _, rfl, ?_⟩ | refine ⟨_, _, rfl, ?_, ?_⟩ | refine ⟨_, rfl, ?_⟩ | refine Or.inr (Or.inr (Or.inr ⟨_, _, rfl, ?_⟩)) | exact Or.inl rfl | refine Or.inr ?_)) rfl ?_
  exact (rfl : _ = _)

/-- The names so far, each a text. -/
def nmTx (l : List Wd) : List ByteArray := l.map fun w => w.s
/-- The first name that is none, or stands earlier, too. -/
noncomputable def enumP (l : List Wd) : Nat → Ft
  | 0 => (0, 0)
  | e + 1 =>
    if (enumP l e).1 ≠ 0 then enumP l e
    else match l[e]? with
      | some w => listedP (nmTx (l.take (e + 1))) w.s w.a
      | none => (0, 0)
theorem enumP_stay {l : List Wd} {e : Nat} (h : (enumP l e).1 ≠ 0) : ∀ d, enumP l (e + d) = enumP l e
  | 0 => rfl
  | d + 1 => by
    have ih := enumP_stay h d
    rw [← Nat.add_assoc, enumP, ih, if_pos h]
theorem listedP_zero {L : List ByteArray} {x : ByteArray} {a : Int} (h : (listedP L x a).1 = 0) : listedP L x a = (0, 0) := by
  unfold listedP at *
  split
  · rename_i h1
    rw [if_pos h1] at h
    split
    · rfl
    · rename_i h2
      rw [if_neg h2] at h
      simp at h
  · rename_i h1
    rw [if_neg h1] at h
    simp at h
theorem enumP_zero {l : List Wd} : ∀ {e : Nat}, (enumP l e).1 = 0 → enumP l e = (0, 0)
  | 0, _ => rfl
  | e + 1, h => by
    rw [enumP] at h ⊢
    split
    · rename_i h1
      rw [if_pos h1] at h
      exact absurd h h1
    · rename_i h1
      rw [if_neg h1] at h
      split
      · rename_i w hw
        rw [hw] at h
        exact listedP_zero h
      · rfl
theorem enumP_step {l : List Wd} {e : Nat} {w : Wd} (h : (enumP l e).1 = 0) (hw : l[e]? = some w) : enumP l (e + 1) = listedP (nmTx (l.take (e + 1))) w.s w.a := by
  rw [enumP, if_neg (by rw [h]; simp), hw]
noncomputable def kenumF (h : Hd) : Ft :=
  if h.names.length = 0 then (15, h.at') else if 64 < h.names.length then (8, ((h.names[64]?).getD (⟨emptyB, 0⟩ : Wd)).a) else enumP h.names h.names.length

abbrev enumSt (h : Hd) (ps : Pts) (n e : Nat) : St :=
  ⟨[(1, ⟨[], .loc 0 0⟩), (2, ⟨[], .loc 1 0⟩), (27, ⟨[], .sl 2 (dWds h.names) none⟩), (28, ⟨[], .v (.int .i64 (dWds h.names).length)⟩), (29, ⟨[], .v (.int .i64 e)⟩), (3, ⟨[], .sl 1 (dBs (nmTx (h.names.take e))) (some 0)⟩)],
   [dTy (.mk h ps), [.v (.int .i64 0), .v (.int .i64 0)]], [⟨n, 9, 1, none⟩]⟩

theorem nmTx_snoc {l : List Wd} {e : Nat} {w : Wd} (h : l[e]? = some w) : dBs (nmTx (l.take e)) ++ [[DV.v (.string w.s)]] = dBs (nmTx (l.take (e + 1))) := by
  rw [List.take_add_one, h]
  simp [dBs, nmTx]

theorem kenum_spec (h : Hd) (ps : Pts) (hs : wdsWt h.names ≤ 1099511627776) : EvP Tryz.prog 166 [.agg (dTy (.mk h ps))] (kenumF h).d := by
  have hl := wdsWt_len h.names
  refine ev_go (P := Tryz.prog) tt tt_ok 5000 48 [.cell 2 33] Tryz.func166 rfl Tryz.ntmps166 rfl (Nat.le_of_ble_eq_true rfl) (fun E9 w9 hn9 hm9 => ?_)
  refine br (fun h0 => ?_) (fun h0 => ?_)
  · have h0 : h.names.length = 0 := by have := h0; simp [dWds_len] at this; simp [this]
    refine call_p (enters_of Tryz.func164 (by decide +kernel) rfl) (bad_spec 15 h.at') (by repeat' (first | exact rfl | exact trivial | exact Or.inr (Or.inl ⟨_, rfl⟩) | exact Or.inr ⟨_, rfl⟩ | exact Or.inl ⟨rfl, rfl⟩ | exact Or.inl rfl | refine Or.inr ⟨_, _, rfl, Nat.zero_le _, rfl, ?_⟩ | refine ⟨_, _, rfl, ?_, ?_⟩ | refine ⟨_, rfl, ?_⟩ | refine Or.inr (Or.inr (Or.inr ⟨_, _, rfl, ?_⟩)) | exact Or.inl rfl | refine Or.inr ?_)) rfl ?_
    refine ⟨_, ?_, rfl⟩
    rw [kenumF, if_pos h0]
    exact (by repeat' (first | exact rfl | exact trivial | exact Or.inr (Or.inl ⟨_, rfl⟩) | exact Or.inr ⟨_, rfl⟩ | exact Or.inl ⟨rfl, rfl⟩ | exact Or.inl rfl | refine Or.inr ⟨_, _, rfl, Nat.zero_le _, rfl, ?_⟩ | refine ⟨_, _, rfl, ?_, ?_⟩ | refine ⟨_, rfl, ?_⟩ | refine Or.inr (Or.inr (Or.inr ⟨_, _, rfl, ?_⟩)) | exact Or.inl rfl | refine Or.inr ?_))
  have h0 : ¬ h.names.length = 0 := by have := h0; simp [dWds_len] at this; simpa using this
  refine br (fun h1 => ?_) (fun h1 => ?_)
  · have h1 : 64 < h.names.length := by have := h1; simp [dWds_len] at this; omega
    obtain ⟨x, hx⟩ : ∃ x, h.names[64]? = some x := ⟨_, List.getElem?_eq_getElem h1⟩
    refine ⟨dWd x, ⟨by omega, dWds_get hx⟩, ?_⟩
    refine call_p (enters_of Tryz.func164 (by decide +kernel) rfl) (bad_spec 8 x.a) (by repeat' (first | exact rfl | exact trivial | exact Or.inr (Or.inl ⟨_, rfl⟩) | exact Or.inr ⟨_, rfl⟩ | exact Or.inl ⟨rfl, rfl⟩ | exact Or.inl rfl | refine Or.inr ⟨_, _, rfl, Nat.zero_le _, rfl, ?_⟩ | refine ⟨_, _, rfl, ?_, ?_⟩ | refine ⟨_, rfl, ?_⟩ | refine Or.inr (Or.inr (Or.inr ⟨_, _, rfl, ?_⟩)) | exact Or.inl rfl | refine Or.inr ?_)) rfl ?_
    refine ⟨_, ?_, rfl⟩
    rw [kenumF, if_neg h0, if_pos h1, hx]
    exact (by repeat' (first | exact rfl | exact trivial | exact Or.inr (Or.inl ⟨_, rfl⟩) | exact Or.inr ⟨_, rfl⟩ | exact Or.inl ⟨rfl, rfl⟩ | exact Or.inl rfl | refine Or.inr ⟨_, _, rfl, Nat.zero_le _, rfl, ?_⟩ | refine ⟨_, _, rfl, ?_, ?_⟩ | refine ⟨_, rfl, ?_⟩ | refine Or.inr (Or.inr (Or.inr ⟨_, _, rfl, ?_⟩)) | exact Or.inl rfl | refine Or.inr ?_))
  have h1 : ¬ 64 < h.names.length := by have := h1; simp [dWds_len] at this; omega
  have hk : kenumF h = enumP h.names h.names.length := by rw [kenumF, if_neg h0, if_neg h1]
  rw [hk]
  refine loop_i (fun j st => ∃ e : Nat, st = enumSt h ps e e ∧ e ≤ h.names.length ∧ (enumP h.names e).1 = 0 ∧ j = h.names.length - e) h.names.length (enumSt h ps 0 0) (weak_tok ⟨0, 9, 1, none⟩ rfl ⟨_, rfl⟩ rfl (by repeat' (first | exact rfl | exact we_rfl rfl | refine ⟨_, _, rfl, ?_, ?_⟩)) rfl rfl (by repeat' (first | exact trivial | exact we_rfl rfl | exact we_rfl rfl | exact we_tok (Nat.le_refl _) rfl | refine ⟨⟨_, rfl, ?_⟩, ?_⟩))) ⟨0, rfl, by omega, rfl, by omega⟩ ?_
  rintro j st ⟨e, rfl, he, hz, rfl⟩
  refine br (fun hL => ?_) (fun hL => ?_)
  · have hlt : e < h.names.length := by simpa [dWds_len] using hL
    obtain ⟨w, hw⟩ : ∃ w, h.names[e]? = some w := ⟨_, List.getElem?_eq_getElem hlt⟩
    have hws := wdsWt_mem (List.mem_of_getElem? hw)
    have hstep := enumP_step hz hw
    have hlast : (nmTx (h.names.take (e + 1)))[(nmTx (h.names.take (e + 1))).length - 1]? = some w.s := by
      have hl1 : (nmTx (h.names.take (e + 1))).length = e + 1 := by simp [nmTx]; omega
      rw [hl1]
      simp [nmTx, hw]
    refine ⟨dWd w, ⟨by omega, dWds_get hw⟩, ?_⟩
    refine ⟨by simp [dBs_len, nmTx]; omega, ⟨by simp [dBs_len, nmTx, maxLen]; omega, by simp [dBs_len, nmTx]; omega⟩, ?_⟩
    have hsn := nmTx_snoc hw
    have hsp := listed_spec (nmTx (h.names.take (e + 1))) w.s w.a hlast (by simp [nmTx]; omega) (by omega)
    rw [← hsn, ← hstep] at hsp
    refine call_p (enters_of Tryz.func190 (by decide +kernel) rfl) (hsp) (by repeat' (first | exact rfl | exact trivial | exact Or.inr (Or.inl ⟨_, rfl⟩) | exact Or.inr ⟨_, rfl⟩ | exact Or.inl ⟨rfl, rfl⟩ | exact Or.inl rfl | refine Or.inr ⟨_, _, rfl, Nat.zero_le _, rfl, ?_⟩ | refine ⟨_, _, rfl, ?_, ?_⟩ | refine ⟨_, rfl, ?_⟩ | refine Or.inr (Or.inr (Or.inr ⟨_, _, rfl, ?_⟩)) | exact Or.inl rfl | refine Or.inr ?_)) rfl ?_
    refine br (fun hf => ?_) (fun hf => ?_)
    · have hf : (enumP h.names (e + 1)).1 ≠ 0 := by simpa using hf
      refine ⟨_, ?_, rfl⟩
      have hst := enumP_stay hf (h.names.length - (e + 1))
      rw [show e + 1 + (h.names.length - (e + 1)) = h.names.length by omega] at hst
      rw [hst]
      exact (by repeat' (first | exact rfl | exact trivial | exact Or.inr (Or.inl ⟨_, rfl⟩) | exact Or.inr ⟨_, rfl⟩ | exact Or.inl ⟨rfl, rfl⟩ | exact Or.inl rfl | refine Or.inr ⟨_, _, rfl, Nat.zero_le _, rfl, ?_⟩ | refine ⟨_, _, rfl, ?_, ?_⟩ | refine ⟨_, rfl, ?_⟩ | refine Or.inr (Or.inr (Or.inr ⟨_, _, rfl, ?_⟩)) | exact Or.inl rfl | refine Or.inr ?_))
    · have hf : (enumP h.names (e + 1)).1 = 0 := by simpa using hf
      refine ⟨enumSt h ps (e + 1) (e + 1), (weak_mk ⟨_, rfl⟩ (by repeat' (first | exact rfl | exact we_rfl rfl | refine ⟨_, _, rfl, ?_, ?_⟩)) rfl rfl rfl (by repeat' (first | exact trivial | exact we_rfl rfl | exact we_int (nxt hlt (by omega)) | exact we_sl hsn rfl | refine ⟨⟨_, rfl, ?_⟩, ?_⟩))), h.names.length - (e + 1), by omega, e + 1, rfl, by omega, hf, rfl⟩
  · have hge : e = h.names.length := by
      have := hL; simp [dWds_len] at this; omega
    subst hge
    have hst := enumP_zero hz
    refine ⟨_, ?_, rfl⟩
    rw [hst]
    exact (by repeat' (first | exact rfl | exact trivial | exact Or.inr (Or.inl ⟨_, rfl⟩) | exact Or.inr ⟨_, rfl⟩ | exact Or.inl ⟨rfl, rfl⟩ | exact Or.inl rfl | refine Or.inr ⟨_, _, rfl, Nat.zero_le _, rfl, ?_⟩ | refine ⟨_, _, rfl, ?_, ?_⟩ | refine ⟨_, rfl, ?_⟩ | refine Or.inr (Or.inr (Or.inr ⟨_, _, rfl, ?_⟩)) | exact Or.inl rfl | refine Or.inr ?_))
end Go.Proofs.YtmphiikdhifhjaaGreat
set_option maxRecDepth 100000
namespace Go.Proofs.YtmphiikdhifhjaaGreat
open Go Go.RowKit Dv Tryz

/-- What check says: the fault, and how many types so far, where nothing is wrong. -/
def ChkΦ (t : Ty) (depth m : Int) (r : DV) (os : List (List DV)) (_ : List TkE) : Prop :=
  r = (wrong t depth m).1.d ∧ ∃ z : Int, os = [[.v (.int .i64 z)]] ∧ ((wrong t depth m).1.1 = 0 → z = (wrong t depth m).2)

theorem chk_cl {t : Ty} {depth m : Int} : ∀ r os tk, ChkΦ t depth m r os tk → clB 0 0 r = true ∧ ∀ cs2 ∈ os, clB.clL 0 0 cs2 = true := by
  rintro r os tk ⟨rfl, z, rfl, _⟩
  refine ⟨rfl, fun cs2 h => ?_⟩
  simp only [List.mem_singleton] at h
  subst h
  rfl

theorem kright_of (t : Ty) (hc : Ev Tryz.prog 125 [.loc 0 0, .agg (dTy t), .v (.int .i64 1)] [[.v (.int .i64 0)]] [] (ChkΦ t 1 0)) :
    EvP Tryz.prog 71 [.agg (dTy t)] (wrong t 1 0).1.d := by
  obtain ⟨h, ps⟩ := t
  refine ev_go (P := Tryz.prog) tt tt_ok 5000 9 [.cell 2 33] Tryz.func71 rfl Tryz.ntmps71 rfl (Nat.le_of_ble_eq_true rfl) (fun E9 w9 hn9 hm9 => ?_)
  refine call_o (enters_of Tryz.func125 (by decide +kernel) rfl) rfl rfl (by repeat' (first | exact rfl | exact trivial | exact Or.inr (Or.inl ⟨_, rfl⟩) | exact Or.inr ⟨_, rfl⟩ | exact Or.inl ⟨rfl, rfl⟩ | exact Or.inl rfl | refine Or.inr ⟨_, _, rfl, Nat.zero_le _, rfl, ?_⟩ | refine ⟨_, _, rfl, ?_, ?_⟩ | refine ⟨_, rfl, ?_⟩ | refine Or.inr (Or.inr (Or.inr ⟨_, _, rfl, ?_⟩)) | exact Or.inl rfl | refine Or.inr ?_)) (by repeat' (first | exact rfl | exact trivial | exact Or.inr (Or.inl ⟨_, rfl⟩) | exact Or.inr ⟨_, rfl⟩ | exact Or.inl ⟨rfl, rfl⟩ | exact Or.inl rfl | refine Or.inr ⟨_, _, rfl, Nat.zero_le _, rfl, ?_⟩ | refine ⟨_, _, rfl, ?_, ?_⟩ | refine ⟨_, rfl, ?_⟩ | refine Or.inr (Or.inr (Or.inr ⟨_, _, rfl, ?_⟩)) | exact Or.inl rfl | refine Or.inr ?_)) hc chk_cl (fun r cs2 hr => ?_)
  obtain ⟨rfl, z, hz, _⟩ := hr
  simp only [List.cons.injEq, and_true] at hz
  subst hz
  exact ⟨_, (by repeat' (first | exact rfl | exact trivial | exact Or.inr (Or.inl ⟨_, rfl⟩) | exact Or.inr ⟨_, rfl⟩ | exact Or.inl ⟨rfl, rfl⟩ | exact Or.inl rfl | refine Or.inr ⟨_, _, rfl, Nat.zero_le _, rfl, ?_⟩ | refine ⟨_, _, rfl, ?_, ?_⟩ | refine ⟨_, rfl, ?_⟩ | refine Or.inr (Or.inr (Or.inr ⟨_, _, rfl, ?_⟩)) | exact Or.inl rfl | refine Or.inr ?_)), rfl⟩
end Go.Proofs.YtmphiikdhifhjaaGreat
set_option maxRecDepth 100000
namespace Go.Proofs.YtmphiikdhifhjaaGreat
open Go Go.RowKit Dv Tryz

/-- A number's digits. -/
def digs (n : Nat) : List UInt8 := if n < 10 then [UInt8.ofNat (48 + n)] else digs (n / 10) ++ [UInt8.ofNat (48 + n % 10)]
termination_by n
decreasing_by omega

theorem digs_lt {n : Nat} (h : n < 10) : digs n = [UInt8.ofNat (48 + n)] := by rw [digs, if_pos h]
theorem digs_ge {n : Nat} (h : ¬ n < 10) : digs n = digs (n / 10) ++ [UInt8.ofNat (48 + n % 10)] := by rw [digs, if_neg h]

theorem digs_len : ∀ (k n : Nat), n < 10 ^ (k + 1) → (digs n).length ≤ k + 1
  | 0, n, h => by
    have : n < 10 := by simpa using h
    rw [digs_lt this]; simp
  | k + 1, n, h => by
    by_cases hn : n < 10
    · rw [digs_lt hn]; simp
    · rw [digs_ge hn]
      have h2 : n / 10 < 10 ^ (k + 1) := by
        rw [Nat.div_lt_iff_lt_mul (by decide)]
        rw [Nat.pow_succ] at h
        exact h
      have := digs_len k (n / 10) h2
      simp only [List.length_append, List.length_cons, List.length_nil]
      omega
theorem digs_20 {n : Nat} (h : n ≤ 18446744073709551616) : (digs n).length ≤ 20 := digs_len 19 n (by omega)

/-- A number's text. -/
def putL (z : Int) : List UInt8 := if z < 0 then 45 :: digs z.natAbs else digs z.natAbs
def putD (z : Int) : ByteArray := ⟨(putL z).toArray⟩

theorem putL_len {z : Int} (h1 : -9223372036854775808 ≤ z) (h2 : z ≤ 9223372036854775807) : (putL z).length ≤ 21 := by
  have := digs_20 (n := z.natAbs) (by omega)
  unfold putL
  split
  · simp only [List.length_cons]; omega
  · omega
theorem putD_size {z : Int} (h1 : -9223372036854775808 ≤ z) (h2 : z ≤ 9223372036854775807) : (putD z).size ≤ 21 := putL_len h1 h2

theorem ba_app (a b : List UInt8) : (⟨a.toArray⟩ : ByteArray) ++ ⟨b.toArray⟩ = ⟨(a ++ b).toArray⟩ := by
  apply ByteArray.ext
  simp

theorem wr (z : Int) (h1 : -9223372036854775808 ≤ z) (h2 : z ≤ 9223372036854775807) : IntKind.i64.wrap z = z := by
  rw [IntKind.wrap_i64]; omega

theorem putL_nn {z : Int} (h : 0 ≤ z) : putL z = digs z.toNat := by
  unfold putL
  rw [if_neg (by omega)]
  congr 1
  omega

theorem put07_nn : ∀ (N : Nat) (z : Int), 0 ≤ z → z ≤ 9223372036854775807 → z.toNat < N → EvP Tryz.prog 68 [.v (.int .i64 z)] (.v (.string (putD z)))
  | 0, z, _, _, h => by omega
  | N + 1, z, h0, h1, hN => by
    have ih := put07_nn N
    refine ev_go (P := Tryz.prog) tt tt_ok 5000 33 [.tmp 2] Tryz.func68 rfl Tryz.ntmps68 rfl (Nat.le_of_ble_eq_true rfl) (fun E9 w9 hn9 hm9 => ?_)
    refine br (fun h => ?_) (fun _ => ?_)
    · have : z < 0 := by simpa using h
      omega
    refine br (fun h => ?_) (fun h => ?_)
    · have hz : z < 10 := by simpa using h
      have hw : IntKind.i64.wrap (48 + z) = 48 + z := wr _ (by omega) (by omega)
      refine ⟨[UInt8.ofNat (48 + z.toNat)], ?_, ?_⟩
      · simp only [List.flatten_cons, List.flatten_nil, List.append_nil, u8L, List.cons.injEq, and_true]
        refine congrArg (fun x => DV.v (.int .u8 x)) ?_
        rw [hw, IntKind.wrap_u8]
        have : (UInt8.ofNat (48 + z.toNat)).toNat = 48 + z.toNat := by
          rw [UInt8.toNat_ofNat']; omega
        rw [this]
        omega
      · refine (congrArg (fun s => DV.v (.string s)) ?_ : _ = _)
        rw [putD, putL_nn h0, digs_lt (by omega)]
    · have hz : ¬ z < 10 := by simpa using h
      have hq : IntKind.i64.wrap (z.tdiv 10) = ((z.toNat / 10 : Nat) : Int) := by
        have : z.tdiv 10 = z / 10 := Int.tdiv_eq_ediv_of_nonneg h0
        rw [this, wr _ (by omega) (by omega)]
        omega
      have hr : z.tmod 10 = ((z.toNat % 10 : Nat) : Int) := by
        rw [Int.tmod_eq_emod_of_nonneg h0]; omega
      refine ⟨⟨rfl, by decide⟩, ?_⟩
      refine call_p (enters_of Tryz.func68 (by decide +kernel) rfl) (ih (IntKind.i64.wrap (z.tdiv 10)) (by rw [hq]; omega) (by rw [hq]; omega) (by rw [hq]; omega)) (by repeat' (first | exact rfl | exact trivial | exact Or.inr (Or.inl ⟨_, rfl⟩) | exact Or.inr ⟨_, rfl⟩ | exact Or.inl ⟨rfl, rfl⟩ | exact Or.inl rfl | refine Or.inr ⟨_, _, rfl, Nat.zero_le _, rfl, ?_⟩ | refine ⟨_, _, rfl, ?_, ?_⟩ | refine ⟨_, rfl, ?_⟩ | refine Or.inr (Or.inr (Or.inr ⟨_, _, rfl, ?_⟩)) | exact Or.inl rfl | refine Or.inr ?_)) rfl ?_
      refine ⟨⟨rfl, by decide⟩, ?_⟩
      refine call_p (enters_of Tryz.func68 (by decide +kernel) rfl) (ih (z.tmod 10) (by rw [hr]; omega) (by rw [hr]; omega) (by rw [hr]; omega)) (by repeat' (first | exact rfl | exact trivial | exact Or.inr (Or.inl ⟨_, rfl⟩) | exact Or.inr ⟨_, rfl⟩ | exact Or.inl ⟨rfl, rfl⟩ | exact Or.inl rfl | refine Or.inr ⟨_, _, rfl, Nat.zero_le _, rfl, ?_⟩ | refine ⟨_, _, rfl, ?_, ?_⟩ | refine ⟨_, rfl, ?_⟩ | refine Or.inr (Or.inr (Or.inr ⟨_, _, rfl, ?_⟩)) | exact Or.inl rfl | refine Or.inr ?_)) rfl ?_
      rw [hq, hr]
      have l1 := putD_size (z := ((z.toNat / 10 : Nat) : Int)) (by omega) (by omega)
      have l2 := putD_size (z := ((z.toNat % 10 : Nat) : Int)) (by omega) (by omega)
      refine ⟨by omega, ?_⟩
      refine (congrArg (fun s => DV.v (.string s)) ?_ : _ = _)
      simp only [putD]
      rw [ba_app, putL_nn h0, putL_nn (by omega), putL_nn (by omega), digs_ge (n := z.toNat) (by omega), digs_lt (n := ((z.toNat % 10 : Nat) : Int).toNat) (by omega)]
      rfl

theorem putL_neg {z : Int} (h : z < 0) : putL z = 45 :: digs z.natAbs := by unfold putL; rw [if_pos h]

theorem put07_ng : ∀ (N : Nat) (z : Int), z < 0 → -9223372036854775808 ≤ z → z.natAbs < N → EvP Tryz.prog 68 [.v (.int .i64 z)] (.v (.string (putD z)))
  | 0, z, _, _, h => by omega
  | N + 1, z, h0, h1, hN => by
    have ih := put07_ng N
    refine ev_go (P := Tryz.prog) tt tt_ok 5000 33 [.tmp 2] Tryz.func68 rfl Tryz.ntmps68 rfl (Nat.le_of_ble_eq_true rfl) (fun E9 w9 hn9 hm9 => ?_)
    refine br (fun _ => ?_) (fun h => ?_)
    · refine br (fun h => ?_) (fun h => ?_)
      · have hz : -10 < z := by simpa using h
        have hw : IntKind.i64.wrap (0 - z) = -z := by rw [wr _ (by omega) (by omega)]; omega
        refine call_p (enters_of Tryz.func68 (by decide +kernel) rfl) (put07_nn (z.natAbs + 1) (IntKind.i64.wrap (0 - z)) (by rw [hw]; omega) (by rw [hw]; omega) (by rw [hw]; omega)) (by repeat' (first | exact rfl | exact trivial | exact Or.inr (Or.inl ⟨_, rfl⟩) | exact Or.inr ⟨_, rfl⟩ | exact Or.inl ⟨rfl, rfl⟩ | exact Or.inl rfl | refine Or.inr ⟨_, _, rfl, Nat.zero_le _, rfl, ?_⟩ | refine ⟨_, _, rfl, ?_, ?_⟩ | refine ⟨_, rfl, ?_⟩ | refine Or.inr (Or.inr (Or.inr ⟨_, _, rfl, ?_⟩)) | exact Or.inl rfl | refine Or.inr ?_)) rfl ?_
        rw [hw]
        have l1 := putD_size (z := -z) (by omega) (by omega)
        refine ⟨by show 1 + (putD (-z)).size ≤ _; omega, ?_⟩
        refine (congrArg (fun s => DV.v (.string s)) ?_ : _ = _)
        simp only [putD]
        rw [putL_neg h0, putL_nn (z := -z) (by omega), show (-z).toNat = z.natAbs by omega]
        exact ba_app [45] _
      · have hz : ¬ -10 < z := by simpa using h
        have hq : IntKind.i64.wrap (z.tdiv 10) = -((z.natAbs / 10 : Nat) : Int) := by
          have : z.tdiv 10 = -((z.natAbs / 10 : Nat) : Int) := by
            have e : z = -(z.natAbs : Int) := by omega
            rw [e, Int.neg_tdiv, Int.natAbs_neg, Int.natAbs_natCast, Int.tdiv_eq_ediv_of_nonneg (by omega)]
            omega
          rw [this, wr _ (by omega) (by omega)]
        have hr : z.tmod 10 = -((z.natAbs % 10 : Nat) : Int) := by
          have e : z = -(z.natAbs : Int) := by omega
          rw [e, Int.neg_tmod, Int.natAbs_neg, Int.natAbs_natCast, Int.tmod_eq_emod_of_nonneg (by omega)]
          omega
        have hw : IntKind.i64.wrap (0 - z.tmod 10) = ((z.natAbs % 10 : Nat) : Int) := by
          rw [hr, wr _ (by omega) (by omega)]; omega
        refine ⟨⟨rfl, by decide⟩, ?_⟩
        refine call_p (enters_of Tryz.func68 (by decide +kernel) rfl) (ih (IntKind.i64.wrap (z.tdiv 10)) (by rw [hq]; omega) (by rw [hq]; omega) (by rw [hq]; omega)) (by repeat' (first | exact rfl | exact trivial | exact Or.inr (Or.inl ⟨_, rfl⟩) | exact Or.inr ⟨_, rfl⟩ | exact Or.inl ⟨rfl, rfl⟩ | exact Or.inl rfl | refine Or.inr ⟨_, _, rfl, Nat.zero_le _, rfl, ?_⟩ | refine ⟨_, _, rfl, ?_, ?_⟩ | refine ⟨_, rfl, ?_⟩ | refine Or.inr (Or.inr (Or.inr ⟨_, _, rfl, ?_⟩)) | exact Or.inl rfl | refine Or.inr ?_)) rfl ?_
        refine ⟨⟨rfl, by decide⟩, ?_⟩
        refine call_p (enters_of Tryz.func68 (by decide +kernel) rfl) (put07_nn 11 (IntKind.i64.wrap (0 - z.tmod 10)) (by rw [hw]; omega) (by rw [hw]; omega) (by rw [hw]; omega)) (by repeat' (first | exact rfl | exact trivial | exact Or.inr (Or.inl ⟨_, rfl⟩) | exact Or.inr ⟨_, rfl⟩ | exact Or.inl ⟨rfl, rfl⟩ | exact Or.inl rfl | refine Or.inr ⟨_, _, rfl, Nat.zero_le _, rfl, ?_⟩ | refine ⟨_, _, rfl, ?_, ?_⟩ | refine ⟨_, rfl, ?_⟩ | refine Or.inr (Or.inr (Or.inr ⟨_, _, rfl, ?_⟩)) | exact Or.inl rfl | refine Or.inr ?_)) rfl ?_
        rw [hq, hw]
        have l1 := putD_size (z := -((z.natAbs / 10 : Nat) : Int)) (by omega) (by omega)
        have l2 := putD_size (z := ((z.natAbs % 10 : Nat) : Int)) (by omega) (by omega)
        refine ⟨by omega, ?_⟩
        refine (congrArg (fun s => DV.v (.string s)) ?_ : _ = _)
        simp only [putD]
        rw [ba_app, putL_neg h0, putL_neg (by omega), putL_nn (by omega), digs_ge (n := z.natAbs) (by omega), digs_lt (n := ((z.natAbs % 10 : Nat) : Int).toNat) (by omega), Int.natAbs_neg, Int.natAbs_natCast]
        rfl
    · have : ¬ z < 0 := by simpa using h
      omega

/-- ref07.Put: the number's text. -/
theorem put07_spec (z : Int) (h1 : -9223372036854775808 ≤ z) (h2 : z ≤ 9223372036854775807) : EvP Tryz.prog 68 [.v (.int .i64 z)] (.v (.string (putD z))) := by
  by_cases h : z < 0
  · exact put07_ng _ z h h1 (Nat.lt_succ_self _)
  · exact put07_nn _ z (by omega) h2 (Nat.lt_succ_self _)
end Go.Proofs.YtmphiikdhifhjaaGreat
set_option maxRecDepth 100000
namespace Go.Proofs.YtmphiikdhifhjaaGreat
open Go Go.RowKit Dv Tryz

theorem u8L_map : ∀ bs : List UInt8, u8L bs = bs.map fun b => DV.v (.int .u8 (b.toNat : Int))
  | [] => rfl
  | b :: r => by simp [u8L, u8L_map r]
theorem u8L_len (bs : List UInt8) : (u8L bs).length = bs.length := by simp [u8L_map]
theorem u8L_app (a b : List UInt8) : u8L (a ++ b) = u8L a ++ u8L b := by simp [u8L_map]
theorem u8L_take (n : Nat) (a : List UInt8) : u8L (a.take n) = (u8L a).take n := by simp [u8L_map, List.map_take]
theorem u8L_drop (n : Nat) (a : List UInt8) : u8L (a.drop n) = (u8L a).drop n := by simp [u8L_map, List.map_drop]
theorem weL_u8' {n m : Nat} {tk : List TkE} : ∀ bs : List UInt8, WeL n m tk (u8L bs) (u8L bs)
  | [] => rfl
  | b :: r => ⟨_, _, rfl, we_rfl rfl, weL_u8' r⟩
theorem weL_u8 {n m : Nat} {tk : List TkE} {l : List DV} {bs : List UInt8} (h : l = u8L bs) : WeL n m tk l (u8L bs) := by rw [h]; exact weL_u8' bs

theorem digs_pos (n : Nat) : 0 < (digs n).length := by
  rw [digs]; split <;> simp

abbrev putSt (m : Bool) (u a : Nat) (bs : List UInt8) : St := ⟨[(3, ⟨[], .v (.bool m)⟩), (4, ⟨[], .v (.int .u64 u)⟩), (5, ⟨[], .loc 0 0⟩), (6, ⟨[], .v (.int .i64 a)⟩)], [u8L bs], []⟩
def putI (m : Bool) (N j : Nat) (st : St) : Prop := ∃ (u a : Nat) (bs : List UInt8), st = putSt m u a bs ∧ bs.length = 20 ∧ a ≤ 20 ∧ u < 18446744073709551616 ∧
  ((a < 20 ∧ u = 0 ∧ digs N = bs.drop a) ∨ ((a = 20 ∨ 0 < u) ∧ digs N = digs u ++ bs.drop a)) ∧ j = a

theorem putI_0 (m : Bool) (N : Nat) (h : N < 18446744073709551616) : putI m N 20 (putSt m N 20 (List.replicate 20 0)) :=
  ⟨N, 20, _, rfl, by simp, Nat.le_refl _, h, .inr ⟨.inl rfl, by simp⟩, rfl⟩

/-- digits.Put: the number's text. -/
theorem put_spec (z : Int) (h1 : -9223372036854775808 ≤ z) (h2 : z ≤ 9223372036854775807) : EvP Tryz.prog 126 [.v (.int .i64 z)] (.v (.string (putD z))) := by
  have hN : z.natAbs ≤ 9223372036854775808 := by omega
  refine ev_go (P := Tryz.prog) tt tt_ok 5000 38 [.tmp 2] Tryz.func126 rfl Tryz.ntmps126 rfl (Nat.le_of_ble_eq_true rfl) (fun E9 w9 hn9 hm9 => ?_)
  refine br (fun h => ?_) (fun h => ?_)
  case' refine_1 =>
    have hz : z < 0 := by simpa using h
    have hu : IntKind.u64.wrap (0 - IntKind.u64.wrap z) = (z.natAbs : Int) := by
      simp only [IntKind.wrap_u64]; omega
    refine loop_i (putI (decide (z < 0)) z.natAbs) 20 (putSt (decide (z < 0)) z.natAbs 20 (List.replicate 20 0)) (weak_mk ⟨_, rfl⟩ (by repeat' (first | exact rfl | exact we_rfl rfl | exact weL_u8 rfl | refine ⟨_, _, rfl, ?_, ?_⟩)) rfl rfl rfl (by repeat' (first | exact trivial | exact we_rfl rfl | exact we_int hu | exact weL_u8 rfl | refine ⟨⟨_, rfl, ?_⟩, ?_⟩))) (putI_0 _ _ (by omega)) ?_
  case' refine_2 =>
    have hz : ¬ z < 0 := by simpa using h
    have hu : IntKind.u64.wrap z = (z.natAbs : Int) := by
      simp only [IntKind.wrap_u64]; omega
    refine loop_i (putI (decide (z < 0)) z.natAbs) 20 (putSt (decide (z < 0)) z.natAbs 20 (List.replicate 20 0)) (weak_mk ⟨_, rfl⟩ (by repeat' (first | exact rfl | exact we_rfl rfl | exact weL_u8 rfl | refine ⟨_, _, rfl, ?_, ?_⟩)) rfl rfl rfl (by repeat' (first | exact trivial | exact we_rfl rfl | exact we_int hu | exact weL_u8 rfl | refine ⟨⟨_, rfl, ?_⟩, ?_⟩))) (putI_0 _ _ (by omega)) ?_
  all_goals
    clear hu hz h
    rintro a st ⟨u, j, bs, rfl, hbl, ha, hu64, hinv, rfl⟩
    refine br (fun h => ?_) (fun h => ?_)
    · have hc : a = 20 ∨ 0 < u := by
        simp [pickB_or] at h; omega
      have hd : digs z.natAbs = digs u ++ bs.drop a := by
        rcases hinv with ⟨h3, h4, _⟩ | ⟨_, h3⟩
        · omega
        · exact h3
      have hp : 0 < a := by
        have e1 := congrArg List.length hd
        have e2 := digs_pos u
        have e3 := digs_20 (n := z.natAbs) (by omega)
        simp only [List.length_append, List.length_drop, hbl] at e1
        omega
      have ha' : IntKind.i64.wrap ((a : Int) - 1) = ((a - 1 : Nat) : Int) := by rw [wr _ (by omega) (by omega)]; omega
      have hb : IntKind.u8.wrap (48 + IntKind.u8.wrap ((u : Int).tmod 10)) = ((UInt8.ofNat (48 + u % 10)).toNat : Int) := by
        rw [Int.tmod_eq_emod_of_nonneg (by omega), UInt8.toNat_ofNat', IntKind.wrap_u8', IntKind.wrap_u8']
        omega
      have hq : IntKind.u64.wrap ((u : Int).tdiv 10) = ((u / 10 : Nat) : Int) := by
        rw [Int.tdiv_eq_ediv_of_nonneg (by omega), IntKind.wrap_u64]
        omega
      refine ⟨⟨rfl, by decide⟩, ?_⟩
      refine ⟨⟨by rw [ha']; omega, by rw [ha']; omega⟩, ?_⟩
      have hoff : 0 + (IntKind.i64.wrap ((a : Int) - 1)).toNat * 1 = a - 1 := by rw [ha']; omega
      refine ⟨by rw [hoff, u8L_len, hbl]; omega, ?_⟩
      refine ⟨⟨rfl, by decide⟩, ?_⟩
      have hcs : (u8L bs).set (0 + (IntKind.i64.wrap ((a : Int) - 1)).toNat * 1) (DV.v (.int .u8 (IntKind.u8.wrap (48 + IntKind.u8.wrap ((u : Int).tmod 10))))) = u8L (bs.take (a - 1) ++ [UInt8.ofNat (48 + u % 10)] ++ bs.drop a) := by
        rw [hoff, hb, List.set_eq_take_append_cons_drop, if_pos (by rw [u8L_len, hbl]; omega), u8L_app, u8L_app, u8L_take, u8L_drop, show a - 1 + 1 = a by omega]
        simp [u8L]
      refine ⟨putSt (decide (z < 0)) (u / 10) (a - 1) (bs.take (a - 1) ++ [UInt8.ofNat (48 + u % 10)] ++ bs.drop a), (weak_b 1 rfl (by repeat' (first | exact rfl | exact we_rfl rfl | exact weL_u8 hcs | exact we_int ha' | exact we_int hq | refine ⟨_, _, rfl, ?_, ?_⟩)) rfl rfl rfl (by repeat' (first | exact trivial | exact we_rfl rfl | exact weL_u8 hcs | exact we_int ha' | exact we_int hq | refine ⟨⟨_, rfl, ?_⟩, ?_⟩))), a - 1, by omega, u / 10, a - 1, _, rfl, by simp; omega, by omega, by omega, ?_, rfl⟩
      have hdrop : (bs.take (a - 1) ++ [UInt8.ofNat (48 + u % 10)] ++ bs.drop a).drop (a - 1) = UInt8.ofNat (48 + u % 10) :: bs.drop a := by
        rw [List.append_assoc, List.drop_append_of_le_length (by simp; omega), List.drop_eq_nil_of_le (by simp; omega)]
        rfl
      rw [hdrop, hd]
      by_cases h10 : u < 10
      · refine .inl ⟨by omega, by omega, ?_⟩
        rw [digs_lt h10, Nat.mod_eq_of_lt h10]; rfl
      · refine .inr ⟨.inr (by omega), ?_⟩
        rw [digs_ge h10, List.append_assoc]; rfl
    · have hc : a ≠ 20 ∧ u = 0 := by
        simp [pickB_or] at h; omega
      have hd : digs z.natAbs = bs.drop a := by
        rcases hinv with ⟨_, _, h3⟩ | ⟨h3, _⟩
        · exact h3
        · omega
      have hdu : ((u8L bs).drop (0 + (a : Int).toNat * 1)).take (((20 : Nat) : Int).toNat - (a : Int).toNat) = u8L (bs.drop a) := by
        rw [u8L_drop, show 0 + (a : Int).toNat * 1 = a by omega]
        exact List.take_of_length_le (by simp [u8L_len, hbl])
      have hl : (bs.drop a).length = ((20 : Nat) : Int).toNat - (a : Int).toNat := by simp [hbl]
      refine br (fun hz => ?_) (fun hz => ?_)
      · have hz : z < 0 := by simpa using hz
        refine ⟨⟨by omega, by omega, by omega⟩, ?_⟩
        refine ⟨bs.drop a, hdu, hl, ?_⟩
        refine ⟨by show 1 + (bs.drop a).length ≤ _; rw [hl]; omega, ?_⟩
        refine (congrArg (fun s => DV.v (.string s)) ?_ : _ = _)
        rw [← hd, putD, putL_neg hz]
        exact ba_app [45] _
      · have hz : ¬ z < 0 := by simpa using hz
        refine ⟨⟨by omega, by omega, by omega⟩, ?_⟩
        refine ⟨bs.drop a, hdu, hl, ?_⟩
        refine (congrArg (fun s => DV.v (.string s)) ?_ : _ = _)
        rw [← hd, putD, putL_nn (by omega), show z.toNat = z.natAbs by omega]
end Go.Proofs.YtmphiikdhifhjaaGreat
set_option maxRecDepth 100000
namespace Go.Proofs.YtmphiikdhifhjaaGreat
open Go Go.RowKit Dv Tryz

abbrev ba (l : List UInt8) : ByteArray := ⟨l.toArray⟩
def tx (s : ByteArray) : List UInt8 := s.data.toList

theorem ba_ext {s : ByteArray} {l : List UInt8} (h : tx s = l) : s = ba l := by
  subst h
  apply ByteArray.ext
  simp [tx]
theorem tx_app (s t : ByteArray) : tx (s ++ t) = tx s ++ tx t := by simp [tx]
theorem tx_ba (l : List UInt8) : tx (ba l) = l := by simp [tx]
theorem tx_mk (a : Array UInt8) : tx ⟨a⟩ = a.toList := rfl
theorem ba_tx (s : ByteArray) : ba (tx s) = s := (ba_ext rfl).symm
theorem tx_putD (z : Int) : tx (putD z) = putL z := by simp [tx, putD]
theorem tx_len (s : ByteArray) : (tx s).length = s.size := by simp [tx]
theorem sz_app (s t : ByteArray) : (s ++ t).size = s.size + t.size := by simp
theorem sz_ba (l : List UInt8) : (ba l).size = l.length := rfl

/-- Texts one behind the other: f ahead of the first, s ahead of each other. -/
def joinT (f s : List UInt8) : List (List UInt8) → List UInt8
  | [] => []
  | x :: r => f ++ x ++ r.flatMap fun y => s ++ y

theorem joinT_snoc (f s : List UInt8) (x : List UInt8) : ∀ l : List (List UInt8), joinT f s (l ++ [x]) = joinT f s l ++ (if l.length = 0 then f else s) ++ x
  | [] => by simp [joinT]
  | y :: r => by simp [joinT, List.flatMap_append]

/-- How long such a text may be. -/
def jl : List (List UInt8) → Nat
  | [] => 0
  | x :: r => x.length + 2 + jl r
theorem jl_take : ∀ (l : List (List UInt8)) (n : Nat), jl (l.take n) ≤ jl l
  | [], n => by simp [jl]
  | x :: r, 0 => by simp [jl]
  | x :: r, n + 1 => by
    have := jl_take r n
    simp only [List.take_succ_cons, jl]
    omega
theorem flat_len {s : List UInt8} (hs : s.length ≤ 2) : ∀ r : List (List UInt8), (r.flatMap fun y => s ++ y).length ≤ jl r
  | [] => Nat.le_refl _
  | x :: r => by
    have := flat_len hs r
    simp only [List.flatMap_cons, List.length_append, jl]
    omega
theorem joinT_len {f s : List UInt8} (hf : f.length ≤ 2) (hs : s.length ≤ 2) : ∀ l : List (List UInt8), (joinT f s l).length ≤ jl l
  | [] => Nat.le_refl _
  | x :: r => by
    have := flat_len hs r
    simp only [joinT, List.length_append, jl]
    omega

def wdT (w : Wd) : List UInt8 := tx w.s
/-- A label's text. -/
def labelT (l : List Wd) : List UInt8 := joinT [32, 64] [43] (l.map wdT)

theorem jl_wds : ∀ l : List Wd, jl (l.map wdT) ≤ wdsWt l
  | [] => Nat.le_refl _
  | w :: r => by
    have := jl_wds r
    simp only [List.map_cons, jl, wdsWt, Wd.wt, wdT, tx_len]
    omega
theorem labelT_len (l : List Wd) : (labelT l).length ≤ wdsWt l := Nat.le_trans (joinT_len (by simp) (by simp) _) (jl_wds l)

/-- What stands behind a part's type. -/
def coarseT (p : Ph) : List UInt8 :=
  if p.ck = 1 then [32, 126, 102, 108, 111, 111, 114, 40] ++ putL p.cn ++ [41]
  else if p.ck = 2 then [32, 126, 102, 105, 114, 115, 116, 40] ++ putL p.cn ++ [41]
  else if p.ck = 3 then [32, 126, 99, 111, 117, 110, 116] else []
def wideT (p : Ph) : List UInt8 := if 0 < p.wide then [32, 35] ++ putL p.wide else []
def marksT (p : Ph) : List UInt8 := labelT p.label ++ wideT p ++ coarseT p ++ labelT p.cl

/-- A part's text, its type's being u. -/
def partT (tag : Bool) (p : Ph) (u : List UInt8) : List UInt8 :=
  tx p.name.s ++ (if p.bare = true then [] else (if tag = true then [40] ++ u ++ [41] else [58, 32] ++ u) ++ marksT p)

/-- A type's text, the first part's type's, and the parts', being u and l. -/
def headT (h : Hd) (u : List UInt8) (l : List (List UInt8)) : List UInt8 :=
  if h.kind = 1 then [98, 111, 111, 108]
  else if h.kind = 2 then [105, 110, 116, 40] ++ putL h.lo ++ [46, 46] ++ putL h.hi ++ [41]
  else if h.kind = 3 then [116, 101, 120, 116, 40] ++ putL h.most ++ [41]
  else if h.kind = 5 then [108, 105, 115, 116, 40] ++ u ++ [44, 32] ++ putL h.most ++ [41]
  else if h.kind = 6 then [111, 112, 116, 40] ++ u ++ [41]
  else if h.kind = 9 then [114, 101, 102, 40] ++ tx h.name.s ++ [41]
  else if h.kind = 8 then [117, 110, 105, 111, 110, 123] ++ joinT [] [44, 32] l ++ [125]
  else if h.kind = 7 then [114, 101, 99, 111, 114, 100, 123] ++ joinT [] [44, 32] l ++ [125]
  else [101, 110, 117, 109, 40] ++ joinT [] [44, 32] (h.names.map wdT) ++ [41]

mutual
def tyT : Ty → List UInt8
  | .mk h ps => headT h (firstT ps) (ptsT (decide (h.kind = 8)) ps)
def firstT : Pts → List UInt8
  | .nil => []
  | .cons _ t _ => tyT t
def ptsT (tag : Bool) : Pts → List (List UInt8)
  | .nil => []
  | .cons p t r => partT tag p (tyT t) :: ptsT tag r
end

/-- An int. -/
def I64 (z : Int) : Prop := -9223372036854775808 ≤ z ∧ z ≤ 9223372036854775807

mutual
/-- What a type must be for its text: its numbers are ints, a list's or an option's part is one, no field is bare. -/
def fineT : Ty → Prop
  | .mk h ps => I64 h.lo ∧ I64 h.hi ∧ I64 h.most ∧ (1 ≤ h.kind ∧ h.kind ≤ 9) ∧ (h.kind = 5 ∨ h.kind = 6 → ps.len = 1) ∧ fineP h.kind ps
def fineP (k : Int) : Pts → Prop
  | .nil => True
  | .cons p t r => I64 p.wide ∧ I64 p.cn ∧ (p.bare = true → k = 8) ∧ (p.bare = false → 0 ≤ p.wide ∧ fineT t) ∧ fineP k r
end

theorem coarseT_len {p : Ph} (h : I64 p.cn) : (coarseT p).length ≤ 30 := by
  have := putL_len h.1 h.2
  unfold coarseT
  split
  · simp only [List.length_append, List.length_cons, List.length_nil]; omega
  · split
    · simp only [List.length_append, List.length_cons, List.length_nil]; omega
    · split <;> simp
theorem wideT_len {p : Ph} (h : I64 p.wide) : (wideT p).length ≤ 23 := by
  have := putL_len h.1 h.2
  unfold wideT
  split
  · simp only [List.length_append, List.length_cons, List.length_nil]; omega
  · simp
theorem marksT_len {p : Ph} (h1 : I64 p.wide) (h2 : I64 p.cn) : (marksT p).length ≤ wdsWt p.label + wdsWt p.cl + 53 := by
  have e1 := labelT_len p.label
  have e2 := labelT_len p.cl
  have e3 := coarseT_len h2
  have e4 := wideT_len h1
  simp only [marksT, List.length_append]
  omega
theorem partT_len {p : Ph} {u : List UInt8} {tag : Bool} (h1 : I64 p.wide) (h2 : I64 p.cn) : (partT tag p u).length ≤ p.wt + (if p.bare = true then 0 else u.length) - 100 := by
  have := marksT_len h1 h2
  unfold partT
  simp only [Ph.wt, Wd.wt]
  split
  · simp only [List.length_append, List.length_nil, tx_len]; omega
  · split
    · simp only [List.length_append, List.length_cons, List.length_nil, tx_len]; omega
    · simp only [List.length_append, List.length_cons, List.length_nil, tx_len]; omega

theorem headT_len {h : Hd} {u : List UInt8} {l : List (List UInt8)} (h1 : I64 h.lo) (h2 : I64 h.hi) (h3 : I64 h.most) : (headT h u l).length + 100 ≤ h.wt + (if h.kind = 5 ∨ h.kind = 6 then u.length else 0) + (if h.kind = 7 ∨ h.kind = 8 then jl l else 0) := by
  have e1 := putL_len h1.1 h1.2
  have e2 := putL_len h2.1 h2.2
  have e3 := putL_len h3.1 h3.2
  have e4 := jl_wds h.names
  have e5 := joinT_len (f := []) (s := [44, 32]) (by simp) (by simp) (h.names.map wdT)
  have e6 := joinT_len (f := []) (s := [44, 32]) (by simp) (by simp) l
  unfold headT
  simp only [Hd.wt, Wd.wt]
  split
  · simp only [List.length_cons, List.length_nil]; omega
  · split
    · simp only [List.length_append, List.length_cons, List.length_nil]; omega
    · split
      · simp only [List.length_append, List.length_cons, List.length_nil]; omega
      · split
        · rename_i hk
          rw [if_pos (.inl hk)]
          simp only [List.length_append, List.length_cons, List.length_nil]; omega
        · split
          · rename_i hk
            rw [if_pos (.inr hk)]
            simp only [List.length_append, List.length_cons, List.length_nil]; omega
          · split
            · simp only [List.length_append, List.length_cons, List.length_nil, tx_len]; omega
            · split
              · rename_i hk
                rw [if_pos (c := h.kind = 7 ∨ h.kind = 8) (.inr hk)]
                simp only [List.length_append, List.length_cons, List.length_nil]; omega
              · split
                · rename_i hk
                  rw [if_pos (c := h.kind = 7 ∨ h.kind = 8) (.inl hk)]
                  simp only [List.length_append, List.length_cons, List.length_nil]; omega
                · simp only [List.length_append, List.length_cons, List.length_nil]; omega

mutual
theorem tyT_len : ∀ {t : Ty}, fineT t → (tyT t).length + 100 ≤ t.wt
  | .mk h ps, hf => by
    simp only [fineT] at hf
    obtain ⟨h1, h2, h3, h4, h5, h6⟩ := hf
    have e1 := headT_len (u := firstT ps) (l := ptsT (decide (h.kind = 8)) ps) h1 h2 h3
    have e2 := ptsT_len (tag := decide (h.kind = 8)) h6
    simp only [tyT, Ty.wt]
    by_cases hk : h.kind = 5 ∨ h.kind = 6
    · rw [if_pos hk, if_neg (by omega)] at e1
      have e3 : (firstT ps).length ≤ ps.wt := by
        match ps, h5 hk, h6 with
        | .cons p t r, _, h6 =>
          simp only [fineP] at h6
          have hb : p.bare = false := by
            cases hb : p.bare
            · rfl
            · have := h6.2.2.1 hb; omega
          have := tyT_len (h6.2.2.2.1 hb).2
          simp only [firstT, Pts.wt]
          omega
      omega
    · rw [if_neg hk] at e1
      split at e1 <;> omega
theorem ptsT_len {tag : Bool} {k : Int} : ∀ {ps : Pts}, fineP k ps → jl (ptsT tag ps) ≤ ps.wt
  | .nil, _ => Nat.le_refl _
  | .cons p t r, hf => by
    simp only [fineP] at hf
    obtain ⟨h1, h2, h3, h4, h5⟩ := hf
    have e1 := ptsT_len (tag := tag) h5
    have e2 := partT_len (tag := tag) (u := tyT t) h1 h2
    simp only [ptsT, jl, Pts.wt]
    have e4 : p.wt ≥ 256 := by simp only [Ph.wt]; omega
    cases hb : p.bare
    · have e3 := tyT_len (h4 hb).2
      rw [hb] at e2
      simp only [Bool.false_eq_true, if_false] at e2
      omega
    · rw [hb] at e2
      simp only [if_true] at e2
      omega
end
end Go.Proofs.YtmphiikdhifhjaaGreat
set_option maxRecDepth 100000
namespace Go.Proofs.YtmphiikdhifhjaaGreat
open Go Go.RowKit Dv Tryz

abbrev labSt (l : List Wd) (e : Nat) : St := ⟨[(3, ⟨[], .v (.string (ba (labelT (l.take e))))⟩), (4, ⟨[], .v (.int .i64 e)⟩), (0, ⟨[], .sl 2 (dWds l) none⟩)], [], []⟩

theorem labelT_snoc {l : List Wd} {e : Nat} {w : Wd} (h : l[e]? = some w) : labelT (l.take (e + 1)) = labelT (l.take e) ++ (if e = 0 then [32, 64] else [43]) ++ tx w.s := by
  have hlt := (List.getElem?_eq_some_iff.1 h).1
  rw [List.take_add_one, h]
  simp only [labelT, Option.toList_some, List.map_append, List.map_cons, List.map_nil]
  rw [joinT_snoc]
  congr 2
  simp only [List.length_map, List.length_take]
  by_cases h0 : e = 0
  · rw [if_pos h0, if_pos (by omega)]
  · rw [if_neg h0, if_neg (by omega)]

theorem wdsWt_take : ∀ (l : List Wd) (e : Nat), wdsWt (l.take e) ≤ wdsWt l
  | [], e => by simp
  | w :: r, 0 => by simp [wdsWt]
  | w :: r, e + 1 => by
    have := wdsWt_take r e
    simp only [List.take_succ_cons, wdsWt]; omega

theorem we_str {n m : Nat} {tk' : List TkE} {x y : ByteArray} (h : x = y) : We n m tk' (.v (.string x)) (.v (.string y)) := .inl ⟨by rw [h], rfl⟩

theorem label17_spec (l : List Wd) (hs : wdsWt l ≤ 1099511627776) : EvP Tryz.prog 124 [.sl 2 (dWds l) none] (.v (.string (ba (labelT l)))) := by
  have hl := wdsWt_len l
  refine ev_go (P := Tryz.prog) tt tt_ok 5000 23 [.tmp 2] Tryz.func124 rfl Tryz.ntmps124 rfl (Nat.le_of_ble_eq_true rfl) (fun E9 w9 hn9 hm9 => ?_)
  refine loop_i (fun j st => ∃ e : Nat, st = labSt l e ∧ e ≤ l.length ∧ j = l.length - e) l.length (labSt l 0) (weak_mk ⟨_, rfl⟩ (by repeat' (first | exact rfl | exact we_rfl rfl | refine ⟨_, _, rfl, ?_, ?_⟩)) rfl rfl rfl (by repeat' (first | exact trivial | exact we_rfl rfl | refine ⟨⟨_, rfl, ?_⟩, ?_⟩))) ⟨0, rfl, by omega, rfl⟩ ?_
  rintro j st ⟨e, rfl, he, rfl⟩
  have hsz := labelT_len (l.take e)
  have hsz2 := wdsWt_take l e
  refine br (fun h => ?_) (fun h => ?_)
  · have hlt : e < l.length := by simpa [dWds_len] using h
    obtain ⟨w, hw⟩ : ∃ w, l[e]? = some w := ⟨_, List.getElem?_eq_getElem hlt⟩
    have hws := wdsWt_mem (List.mem_of_getElem? hw)
    refine br (fun h0 => ?_) (fun h0 => ?_)
    · have h0 : e = 0 := by
        have : (e : Int) = 0 := by simpa using h0
        omega
      refine ⟨dWd w, ⟨by omega, dWds_get hw⟩, ?_⟩
      refine ⟨by show 2 + w.s.size ≤ _; omega, ?_⟩
      have e1 : (⟨#[32, 64]⟩ : ByteArray) ++ w.s = ba (labelT (l.take (e + 1))) := by
        refine ba_ext ?_
        rw [labelT_snoc hw, if_pos h0, h0]
        simp only [tx_app, tx_mk, List.take_zero]
        rfl
      refine ⟨labSt l (e + 1), (weak_mk ⟨_, rfl⟩ (by repeat' (first | exact rfl | exact we_rfl rfl | refine ⟨_, _, rfl, ?_, ?_⟩)) rfl rfl rfl (by repeat' (first | exact trivial | exact we_rfl rfl | exact we_int (nxt hlt (by omega)) | exact we_str e1 | refine ⟨⟨_, rfl, ?_⟩, ?_⟩))), l.length - (e + 1), by omega, e + 1, rfl, by omega, rfl⟩
    · have h0 : e ≠ 0 := by
        have : (e : Int) ≠ 0 := by simpa using h0
        omega
      refine ⟨by show (labelT (l.take e)).length + 1 ≤ _; omega, ?_⟩
      refine ⟨dWd w, ⟨by omega, dWds_get hw⟩, ?_⟩
      refine ⟨by rw [sz_app, sz_ba]; show (labelT (l.take e)).length + 1 + w.s.size ≤ _; omega, ?_⟩
      have e1 : ba (labelT (l.take e)) ++ (⟨#[43]⟩ : ByteArray) ++ w.s = ba (labelT (l.take (e + 1))) := by
        refine ba_ext ?_
        rw [labelT_snoc hw, if_neg h0]
        simp only [tx_app, tx_mk, tx_ba]
      refine ⟨labSt l (e + 1), (weak_mk ⟨_, rfl⟩ (by repeat' (first | exact rfl | exact we_rfl rfl | refine ⟨_, _, rfl, ?_, ?_⟩)) rfl rfl rfl (by repeat' (first | exact trivial | exact we_rfl rfl | exact we_int (nxt hlt (by omega)) | exact we_str e1 | refine ⟨⟨_, rfl, ?_⟩, ?_⟩))), l.length - (e + 1), by omega, e + 1, rfl, by omega, rfl⟩
  · have hge : e = l.length := by
      have := h; simp [dWds_len] at this; omega
    refine (congrArg (fun s => DV.v (.string s)) ?_ : _ = _)
    rw [hge, List.take_length]

theorem comma17_spec (s : ByteArray) (i : Nat) (hs : s.size ≤ 4611686018427387904) : EvP Tryz.prog 69 [.v (.string s), .v (.int .i64 i)] (.v (.string (ba (tx s ++ (if i = 0 then [] else [44, 32]))))) := by
  refine ev_go (P := Tryz.prog) tt tt_ok 5000 10 [.tmp 4] Tryz.func69 rfl Tryz.ntmps69 rfl (Nat.le_of_ble_eq_true rfl) (fun E9 w9 hn9 hm9 => ?_)
  refine br (fun h => ?_) (fun h => ?_)
  · have h : ¬ i = 0 := by
      have : (0 : Int) < i := by simpa using h
      omega
    refine ⟨by show s.size + 2 ≤ _; omega, ?_⟩
    refine (congrArg (fun s => DV.v (.string s)) ?_ : _ = _)
    rw [if_neg h]
    exact ba_ext (by simp only [tx_app, tx_mk])
  · have h : i = 0 := by
      have : ¬ (0 : Int) < i := by simpa using h
      omega
    refine (congrArg (fun s => DV.v (.string s)) ?_ : _ = _)
    rw [if_pos h, List.append_nil, ba_tx]
end Go.Proofs.YtmphiikdhifhjaaGreat
set_option maxRecDepth 100000
namespace Go.Proofs.YtmphiikdhifhjaaGreat
open Go Go.RowKit Dv Tryz


theorem joinT_take {f s : List UInt8} {l : List (List UInt8)} {e : Nat} {x : List UInt8} (h : l[e]? = some x) : joinT f s (l.take (e + 1)) = joinT f s (l.take e) ++ (if e = 0 then f else s) ++ x := by
  have hlt := (List.getElem?_eq_some_iff.1 h).1
  rw [List.take_add_one, h, Option.toList_some, joinT_snoc]
  congr 2
  simp only [List.length_take]
  by_cases h0 : e = 0
  · rw [if_pos h0, if_pos (by omega)]
  · rw [if_neg h0, if_neg (by omega)]

theorem ptsT_get {tag : Bool} : ∀ {ps : Pts} {e : Nat} {p : Ph} {t : Ty}, ps.toList[e]? = some (p, t) → (ptsT tag ps)[e]? = some (partT tag p (tyT t))
  | .nil, e, p, t, h => by simp [Pts.toList] at h
  | .cons q u r, 0, p, t, h => by
    simp only [Pts.toList, List.getElem?_cons_zero, Option.some.injEq, Prod.mk.injEq] at h
    obtain ⟨rfl, rfl⟩ := h
    simp [ptsT]
  | .cons q u r, e + 1, p, t, h => by
    simp only [Pts.toList, List.getElem?_cons_succ] at h
    simp only [ptsT, List.getElem?_cons_succ]
    exact ptsT_get h
theorem ptsT_length {tag : Bool} : ∀ ps : Pts, (ptsT tag ps).length = ps.len
  | .nil => rfl
  | .cons p t r => by simp [ptsT, Pts.len, ptsT_length r]

theorem fineP_get {k : Int} : ∀ {ps : Pts} {e : Nat} {p : Ph} {t : Ty}, fineP k ps → ps.toList[e]? = some (p, t) → I64 p.wide ∧ I64 p.cn ∧ (p.bare = true → k = 8) ∧ (p.bare = false → 0 ≤ p.wide ∧ fineT t)
  | .nil, e, p, t, _, h => by simp [Pts.toList] at h
  | .cons q u r, 0, p, t, hf, h => by
    simp only [Pts.toList, List.getElem?_cons_zero, Option.some.injEq, Prod.mk.injEq] at h
    obtain ⟨rfl, rfl⟩ := h
    simp only [fineP] at hf
    exact ⟨hf.1, hf.2.1, hf.2.2.1, hf.2.2.2.1⟩
  | .cons q u r, e + 1, p, t, hf, h => by
    simp only [Pts.toList, List.getElem?_cons_succ] at h
    simp only [fineP] at hf
    exact fineP_get hf.2.2.2.2 h

theorem part17_spec (p : Ph) (t : Ty) (tag : Bool) (hp : p.wt ≤ 1099511627776) (hw : I64 p.wide) (hc : I64 p.cn) (hl : p.bare = false → (tyT t).length ≤ 1099511627776)
    (ht : p.bare = false → EvP Tryz.prog 17 [.agg (dTy t)] (.v (.string (ba (tyT t))))) :
    EvP Tryz.prog 70 [.agg (dPh p (dTy t)), .v (.bool tag)] (.v (.string (ba (partT tag p (tyT t))))) := by
  obtain ⟨⟨ns, na⟩, bare, label, wide, ck, cn, ca, cl⟩ := p
  simp only [Ph.wt, Wd.wt] at hp
  simp only at hw hc hl ht
  have l1 := labelT_len label
  have l2 := labelT_len cl
  have l3 := putD_size hw.1 hw.2
  have l4 := putD_size hc.1 hc.2
  have hck : ck = 1 ∨ ck = 2 ∨ ck = 3 ∨ (ck ≠ 1 ∧ ck ≠ 2 ∧ ck ≠ 3) := by omega
  cases bare
  · have hl := hl rfl
    have ht := ht rfl
    obtain ⟨th, tps⟩ := t
    have ty : tyT (.mk th tps) = tyT (.mk th tps) := rfl
    rcases hck with rfl | rfl | rfl | ⟨k1, k2, k3⟩
    · cases tag
      · refine ev_go (P := Tryz.prog) tt tt_ok 5000 76 [.tmp 4] Tryz.func70 rfl Tryz.ntmps70 rfl (Nat.le_of_ble_eq_true rfl) (fun E9 w9 hn9 hm9 => ?_)
        refine ⟨by (simp only [sz_app, sz_ba, List.length_cons, List.length_nil]; omega), ?_⟩
        refine call_p (enters_of Tryz.func17 (by decide +kernel) rfl) (ht) (by repeat' (first | exact rfl | exact trivial | exact Or.inr (Or.inl ⟨_, rfl⟩) | exact Or.inr ⟨_, rfl⟩ | exact Or.inl ⟨rfl, rfl⟩ | exact Or.inl rfl | refine Or.inr ⟨_, _, rfl, Nat.zero_le _, rfl, ?_⟩ | refine ⟨_, _, rfl, ?_, ?_⟩ | refine ⟨_, rfl, ?_⟩ | refine Or.inr (Or.inr (Or.inr ⟨_, _, rfl, ?_⟩)) | exact Or.inl rfl | refine Or.inr ?_)) rfl ?_
        refine ⟨by (simp only [sz_app, sz_ba, List.length_cons, List.length_nil]; omega), ?_⟩
        refine call_p (enters_of Tryz.func124 (by decide +kernel) rfl) (label17_spec label (by omega)) (by repeat' (first | exact rfl | exact trivial | exact Or.inr (Or.inl ⟨_, rfl⟩) | exact Or.inr ⟨_, rfl⟩ | exact Or.inl ⟨rfl, rfl⟩ | exact Or.inl rfl | refine Or.inr ⟨_, _, rfl, Nat.zero_le _, rfl, ?_⟩ | refine ⟨_, _, rfl, ?_, ?_⟩ | refine ⟨_, rfl, ?_⟩ | refine Or.inr (Or.inr (Or.inr ⟨_, _, rfl, ?_⟩)) | exact Or.inl rfl | refine Or.inr ?_)) rfl ?_
        refine ⟨by (simp only [sz_app, sz_ba, List.length_cons, List.length_nil]; omega), ?_⟩
        refine br (fun hwd => ?_) (fun hwd => ?_)
        · have hwd := of_decide_eq_true hwd
          refine ⟨by (simp only [sz_app, sz_ba, List.length_cons, List.length_nil]; omega), ?_⟩
          refine call_p (enters_of Tryz.func68 (by decide +kernel) rfl) (put07_spec wide hw.1 hw.2) (by repeat' (first | exact rfl | exact trivial | exact Or.inr (Or.inl ⟨_, rfl⟩) | exact Or.inr ⟨_, rfl⟩ | exact Or.inl ⟨rfl, rfl⟩ | exact Or.inl rfl | refine Or.inr ⟨_, _, rfl, Nat.zero_le _, rfl, ?_⟩ | refine ⟨_, _, rfl, ?_, ?_⟩ | refine ⟨_, rfl, ?_⟩ | refine Or.inr (Or.inr (Or.inr ⟨_, _, rfl, ?_⟩)) | exact Or.inl rfl | refine Or.inr ?_)) rfl ?_
          refine ⟨by (simp only [sz_app, sz_ba, List.length_cons, List.length_nil]; omega), ?_⟩
          refine ⟨by (simp only [sz_app, sz_ba, List.length_cons, List.length_nil]; omega), ?_⟩
          refine call_p (enters_of Tryz.func68 (by decide +kernel) rfl) (put07_spec cn hc.1 hc.2) (by repeat' (first | exact rfl | exact trivial | exact Or.inr (Or.inl ⟨_, rfl⟩) | exact Or.inr ⟨_, rfl⟩ | exact Or.inl ⟨rfl, rfl⟩ | exact Or.inl rfl | refine Or.inr ⟨_, _, rfl, Nat.zero_le _, rfl, ?_⟩ | refine ⟨_, _, rfl, ?_, ?_⟩ | refine ⟨_, rfl, ?_⟩ | refine Or.inr (Or.inr (Or.inr ⟨_, _, rfl, ?_⟩)) | exact Or.inl rfl | refine Or.inr ?_)) rfl ?_
          refine ⟨by (simp only [sz_app, sz_ba, List.length_cons, List.length_nil]; omega), ?_⟩
          refine ⟨by (simp only [sz_app, sz_ba, List.length_cons, List.length_nil]; omega), ?_⟩
          refine call_p (enters_of Tryz.func124 (by decide +kernel) rfl) (label17_spec cl (by omega)) (by repeat' (first | exact rfl | exact trivial | exact Or.inr (Or.inl ⟨_, rfl⟩) | exact Or.inr ⟨_, rfl⟩ | exact Or.inl ⟨rfl, rfl⟩ | exact Or.inl rfl | refine Or.inr ⟨_, _, rfl, Nat.zero_le _, rfl, ?_⟩ | refine ⟨_, _, rfl, ?_, ?_⟩ | refine ⟨_, rfl, ?_⟩ | refine Or.inr (Or.inr (Or.inr ⟨_, _, rfl, ?_⟩)) | exact Or.inl rfl | refine Or.inr ?_)) rfl ?_
          refine ⟨by (simp only [sz_app, sz_ba, List.length_cons, List.length_nil]; omega), ?_⟩
          refine (congrArg (fun s => DV.v (.string s)) (ba_ext ?_) : _ = _)
          simp [partT, marksT, wideT, coarseT, tx_app, tx_mk, tx_putD, hwd]
        · have hwd := of_decide_eq_false hwd
          refine ⟨by (simp only [sz_app, sz_ba, List.length_cons, List.length_nil]; omega), ?_⟩
          refine call_p (enters_of Tryz.func68 (by decide +kernel) rfl) (put07_spec cn hc.1 hc.2) (by repeat' (first | exact rfl | exact trivial | exact Or.inr (Or.inl ⟨_, rfl⟩) | exact Or.inr ⟨_, rfl⟩ | exact Or.inl ⟨rfl, rfl⟩ | exact Or.inl rfl | refine Or.inr ⟨_, _, rfl, Nat.zero_le _, rfl, ?_⟩ | refine ⟨_, _, rfl, ?_, ?_⟩ | refine ⟨_, rfl, ?_⟩ | refine Or.inr (Or.inr (Or.inr ⟨_, _, rfl, ?_⟩)) | exact Or.inl rfl | refine Or.inr ?_)) rfl ?_
          refine ⟨by (simp only [sz_app, sz_ba, List.length_cons, List.length_nil]; omega), ?_⟩
          refine ⟨by (simp only [sz_app, sz_ba, List.length_cons, List.length_nil]; omega), ?_⟩
          refine call_p (enters_of Tryz.func124 (by decide +kernel) rfl) (label17_spec cl (by omega)) (by repeat' (first | exact rfl | exact trivial | exact Or.inr (Or.inl ⟨_, rfl⟩) | exact Or.inr ⟨_, rfl⟩ | exact Or.inl ⟨rfl, rfl⟩ | exact Or.inl rfl | refine Or.inr ⟨_, _, rfl, Nat.zero_le _, rfl, ?_⟩ | refine ⟨_, _, rfl, ?_, ?_⟩ | refine ⟨_, rfl, ?_⟩ | refine Or.inr (Or.inr (Or.inr ⟨_, _, rfl, ?_⟩)) | exact Or.inl rfl | refine Or.inr ?_)) rfl ?_
          refine ⟨by (simp only [sz_app, sz_ba, List.length_cons, List.length_nil]; omega), ?_⟩
          refine (congrArg (fun s => DV.v (.string s)) (ba_ext ?_) : _ = _)
          simp [partT, marksT, wideT, coarseT, tx_app, tx_mk, tx_putD, hwd]
      · refine ev_go (P := Tryz.prog) tt tt_ok 5000 76 [.tmp 4] Tryz.func70 rfl Tryz.ntmps70 rfl (Nat.le_of_ble_eq_true rfl) (fun E9 w9 hn9 hm9 => ?_)
        refine ⟨by (simp only [sz_app, sz_ba, List.length_cons, List.length_nil]; omega), ?_⟩
        refine call_p (enters_of Tryz.func17 (by decide +kernel) rfl) (ht) (by repeat' (first | exact rfl | exact trivial | exact Or.inr (Or.inl ⟨_, rfl⟩) | exact Or.inr ⟨_, rfl⟩ | exact Or.inl ⟨rfl, rfl⟩ | exact Or.inl rfl | refine Or.inr ⟨_, _, rfl, Nat.zero_le _, rfl, ?_⟩ | refine ⟨_, _, rfl, ?_, ?_⟩ | refine ⟨_, rfl, ?_⟩ | refine Or.inr (Or.inr (Or.inr ⟨_, _, rfl, ?_⟩)) | exact Or.inl rfl | refine Or.inr ?_)) rfl ?_
        refine ⟨by (simp only [sz_app, sz_ba, List.length_cons, List.length_nil]; omega), ?_⟩
        refine ⟨by (simp only [sz_app, sz_ba, List.length_cons, List.length_nil]; omega), ?_⟩
        refine call_p (enters_of Tryz.func124 (by decide +kernel) rfl) (label17_spec label (by omega)) (by repeat' (first | exact rfl | exact trivial | exact Or.inr (Or.inl ⟨_, rfl⟩) | exact Or.inr ⟨_, rfl⟩ | exact Or.inl ⟨rfl, rfl⟩ | exact Or.inl rfl | refine Or.inr ⟨_, _, rfl, Nat.zero_le _, rfl, ?_⟩ | refine ⟨_, _, rfl, ?_, ?_⟩ | refine ⟨_, rfl, ?_⟩ | refine Or.inr (Or.inr (Or.inr ⟨_, _, rfl, ?_⟩)) | exact Or.inl rfl | refine Or.inr ?_)) rfl ?_
        refine ⟨by (simp only [sz_app, sz_ba, List.length_cons, List.length_nil]; omega), ?_⟩
        refine br (fun hwd => ?_) (fun hwd => ?_)
        · have hwd := of_decide_eq_true hwd
          refine ⟨by (simp only [sz_app, sz_ba, List.length_cons, List.length_nil]; omega), ?_⟩
          refine call_p (enters_of Tryz.func68 (by decide +kernel) rfl) (put07_spec wide hw.1 hw.2) (by repeat' (first | exact rfl | exact trivial | exact Or.inr (Or.inl ⟨_, rfl⟩) | exact Or.inr ⟨_, rfl⟩ | exact Or.inl ⟨rfl, rfl⟩ | exact Or.inl rfl | refine Or.inr ⟨_, _, rfl, Nat.zero_le _, rfl, ?_⟩ | refine ⟨_, _, rfl, ?_, ?_⟩ | refine ⟨_, rfl, ?_⟩ | refine Or.inr (Or.inr (Or.inr ⟨_, _, rfl, ?_⟩)) | exact Or.inl rfl | refine Or.inr ?_)) rfl ?_
          refine ⟨by (simp only [sz_app, sz_ba, List.length_cons, List.length_nil]; omega), ?_⟩
          refine ⟨by (simp only [sz_app, sz_ba, List.length_cons, List.length_nil]; omega), ?_⟩
          refine call_p (enters_of Tryz.func68 (by decide +kernel) rfl) (put07_spec cn hc.1 hc.2) (by repeat' (first | exact rfl | exact trivial | exact Or.inr (Or.inl ⟨_, rfl⟩) | exact Or.inr ⟨_, rfl⟩ | exact Or.inl ⟨rfl, rfl⟩ | exact Or.inl rfl | refine Or.inr ⟨_, _, rfl, Nat.zero_le _, rfl, ?_⟩ | refine ⟨_, _, rfl, ?_, ?_⟩ | refine ⟨_, rfl, ?_⟩ | refine Or.inr (Or.inr (Or.inr ⟨_, _, rfl, ?_⟩)) | exact Or.inl rfl | refine Or.inr ?_)) rfl ?_
          refine ⟨by (simp only [sz_app, sz_ba, List.length_cons, List.length_nil]; omega), ?_⟩
          refine ⟨by (simp only [sz_app, sz_ba, List.length_cons, List.length_nil]; omega), ?_⟩
          refine call_p (enters_of Tryz.func124 (by decide +kernel) rfl) (label17_spec cl (by omega)) (by repeat' (first | exact rfl | exact trivial | exact Or.inr (Or.inl ⟨_, rfl⟩) | exact Or.inr ⟨_, rfl⟩ | exact Or.inl ⟨rfl, rfl⟩ | exact Or.inl rfl | refine Or.inr ⟨_, _, rfl, Nat.zero_le _, rfl, ?_⟩ | refine ⟨_, _, rfl, ?_, ?_⟩ | refine ⟨_, rfl, ?_⟩ | refine Or.inr (Or.inr (Or.inr ⟨_, _, rfl, ?_⟩)) | exact Or.inl rfl | refine Or.inr ?_)) rfl ?_
          refine ⟨by (simp only [sz_app, sz_ba, List.length_cons, List.length_nil]; omega), ?_⟩
          refine (congrArg (fun s => DV.v (.string s)) (ba_ext ?_) : _ = _)
          simp [partT, marksT, wideT, coarseT, tx_app, tx_mk, tx_putD, hwd]
        · have hwd := of_decide_eq_false hwd
          refine ⟨by (simp only [sz_app, sz_ba, List.length_cons, List.length_nil]; omega), ?_⟩
          refine call_p (enters_of Tryz.func68 (by decide +kernel) rfl) (put07_spec cn hc.1 hc.2) (by repeat' (first | exact rfl | exact trivial | exact Or.inr (Or.inl ⟨_, rfl⟩) | exact Or.inr ⟨_, rfl⟩ | exact Or.inl ⟨rfl, rfl⟩ | exact Or.inl rfl | refine Or.inr ⟨_, _, rfl, Nat.zero_le _, rfl, ?_⟩ | refine ⟨_, _, rfl, ?_, ?_⟩ | refine ⟨_, rfl, ?_⟩ | refine Or.inr (Or.inr (Or.inr ⟨_, _, rfl, ?_⟩)) | exact Or.inl rfl | refine Or.inr ?_)) rfl ?_
          refine ⟨by (simp only [sz_app, sz_ba, List.length_cons, List.length_nil]; omega), ?_⟩
          refine ⟨by (simp only [sz_app, sz_ba, List.length_cons, List.length_nil]; omega), ?_⟩
          refine call_p (enters_of Tryz.func124 (by decide +kernel) rfl) (label17_spec cl (by omega)) (by repeat' (first | exact rfl | exact trivial | exact Or.inr (Or.inl ⟨_, rfl⟩) | exact Or.inr ⟨_, rfl⟩ | exact Or.inl ⟨rfl, rfl⟩ | exact Or.inl rfl | refine Or.inr ⟨_, _, rfl, Nat.zero_le _, rfl, ?_⟩ | refine ⟨_, _, rfl, ?_, ?_⟩ | refine ⟨_, rfl, ?_⟩ | refine Or.inr (Or.inr (Or.inr ⟨_, _, rfl, ?_⟩)) | exact Or.inl rfl | refine Or.inr ?_)) rfl ?_
          refine ⟨by (simp only [sz_app, sz_ba, List.length_cons, List.length_nil]; omega), ?_⟩
          refine (congrArg (fun s => DV.v (.string s)) (ba_ext ?_) : _ = _)
          simp [partT, marksT, wideT, coarseT, tx_app, tx_mk, tx_putD, hwd]
    · cases tag
      · refine ev_go (P := Tryz.prog) tt tt_ok 5000 76 [.tmp 4] Tryz.func70 rfl Tryz.ntmps70 rfl (Nat.le_of_ble_eq_true rfl) (fun E9 w9 hn9 hm9 => ?_)
        refine ⟨by (simp only [sz_app, sz_ba, List.length_cons, List.length_nil]; omega), ?_⟩
        refine call_p (enters_of Tryz.func17 (by decide +kernel) rfl) (ht) (by repeat' (first | exact rfl | exact trivial | exact Or.inr (Or.inl ⟨_, rfl⟩) | exact Or.inr ⟨_, rfl⟩ | exact Or.inl ⟨rfl, rfl⟩ | exact Or.inl rfl | refine Or.inr ⟨_, _, rfl, Nat.zero_le _, rfl, ?_⟩ | refine ⟨_, _, rfl, ?_, ?_⟩ | refine ⟨_, rfl, ?_⟩ | refine Or.inr (Or.inr (Or.inr ⟨_, _, rfl, ?_⟩)) | exact Or.inl rfl | refine Or.inr ?_)) rfl ?_
        refine ⟨by (simp only [sz_app, sz_ba, List.length_cons, List.length_nil]; omega), ?_⟩
        refine call_p (enters_of Tryz.func124 (by decide +kernel) rfl) (label17_spec label (by omega)) (by repeat' (first | exact rfl | exact trivial | exact Or.inr (Or.inl ⟨_, rfl⟩) | exact Or.inr ⟨_, rfl⟩ | exact Or.inl ⟨rfl, rfl⟩ | exact Or.inl rfl | refine Or.inr ⟨_, _, rfl, Nat.zero_le _, rfl, ?_⟩ | refine ⟨_, _, rfl, ?_, ?_⟩ | refine ⟨_, rfl, ?_⟩ | refine Or.inr (Or.inr (Or.inr ⟨_, _, rfl, ?_⟩)) | exact Or.inl rfl | refine Or.inr ?_)) rfl ?_
        refine ⟨by (simp only [sz_app, sz_ba, List.length_cons, List.length_nil]; omega), ?_⟩
        refine br (fun hwd => ?_) (fun hwd => ?_)
        · have hwd := of_decide_eq_true hwd
          refine ⟨by (simp only [sz_app, sz_ba, List.length_cons, List.length_nil]; omega), ?_⟩
          refine call_p (enters_of Tryz.func68 (by decide +kernel) rfl) (put07_spec wide hw.1 hw.2) (by repeat' (first | exact rfl | exact trivial | exact Or.inr (Or.inl ⟨_, rfl⟩) | exact Or.inr ⟨_, rfl⟩ | exact Or.inl ⟨rfl, rfl⟩ | exact Or.inl rfl | refine Or.inr ⟨_, _, rfl, Nat.zero_le _, rfl, ?_⟩ | refine ⟨_, _, rfl, ?_, ?_⟩ | refine ⟨_, rfl, ?_⟩ | refine Or.inr (Or.inr (Or.inr ⟨_, _, rfl, ?_⟩)) | exact Or.inl rfl | refine Or.inr ?_)) rfl ?_
          refine ⟨by (simp only [sz_app, sz_ba, List.length_cons, List.length_nil]; omega), ?_⟩
          refine ⟨by (simp only [sz_app, sz_ba, List.length_cons, List.length_nil]; omega), ?_⟩
          refine call_p (enters_of Tryz.func68 (by decide +kernel) rfl) (put07_spec cn hc.1 hc.2) (by repeat' (first | exact rfl | exact trivial | exact Or.inr (Or.inl ⟨_, rfl⟩) | exact Or.inr ⟨_, rfl⟩ | exact Or.inl ⟨rfl, rfl⟩ | exact Or.inl rfl | refine Or.inr ⟨_, _, rfl, Nat.zero_le _, rfl, ?_⟩ | refine ⟨_, _, rfl, ?_, ?_⟩ | refine ⟨_, rfl, ?_⟩ | refine Or.inr (Or.inr (Or.inr ⟨_, _, rfl, ?_⟩)) | exact Or.inl rfl | refine Or.inr ?_)) rfl ?_
          refine ⟨by (simp only [sz_app, sz_ba, List.length_cons, List.length_nil]; omega), ?_⟩
          refine ⟨by (simp only [sz_app, sz_ba, List.length_cons, List.length_nil]; omega), ?_⟩
          refine call_p (enters_of Tryz.func124 (by decide +kernel) rfl) (label17_spec cl (by omega)) (by repeat' (first | exact rfl | exact trivial | exact Or.inr (Or.inl ⟨_, rfl⟩) | exact Or.inr ⟨_, rfl⟩ | exact Or.inl ⟨rfl, rfl⟩ | exact Or.inl rfl | refine Or.inr ⟨_, _, rfl, Nat.zero_le _, rfl, ?_⟩ | refine ⟨_, _, rfl, ?_, ?_⟩ | refine ⟨_, rfl, ?_⟩ | refine Or.inr (Or.inr (Or.inr ⟨_, _, rfl, ?_⟩)) | exact Or.inl rfl | refine Or.inr ?_)) rfl ?_
          refine ⟨by (simp only [sz_app, sz_ba, List.length_cons, List.length_nil]; omega), ?_⟩
          refine (congrArg (fun s => DV.v (.string s)) (ba_ext ?_) : _ = _)
          simp [partT, marksT, wideT, coarseT, tx_app, tx_mk, tx_putD, hwd]
        · have hwd := of_decide_eq_false hwd
          refine ⟨by (simp only [sz_app, sz_ba, List.length_cons, List.length_nil]; omega), ?_⟩
          refine call_p (enters_of Tryz.func68 (by decide +kernel) rfl) (put07_spec cn hc.1 hc.2) (by repeat' (first | exact rfl | exact trivial | exact Or.inr (Or.inl ⟨_, rfl⟩) | exact Or.inr ⟨_, rfl⟩ | exact Or.inl ⟨rfl, rfl⟩ | exact Or.inl rfl | refine Or.inr ⟨_, _, rfl, Nat.zero_le _, rfl, ?_⟩ | refine ⟨_, _, rfl, ?_, ?_⟩ | refine ⟨_, rfl, ?_⟩ | refine Or.inr (Or.inr (Or.inr ⟨_, _, rfl, ?_⟩)) | exact Or.inl rfl | refine Or.inr ?_)) rfl ?_
          refine ⟨by (simp only [sz_app, sz_ba, List.length_cons, List.length_nil]; omega), ?_⟩
          refine ⟨by (simp only [sz_app, sz_ba, List.length_cons, List.length_nil]; omega), ?_⟩
          refine call_p (enters_of Tryz.func124 (by decide +kernel) rfl) (label17_spec cl (by omega)) (by repeat' (first | exact rfl | exact trivial | exact Or.inr (Or.inl ⟨_, rfl⟩) | exact Or.inr ⟨_, rfl⟩ | exact Or.inl ⟨rfl, rfl⟩ | exact Or.inl rfl | refine Or.inr ⟨_, _, rfl, Nat.zero_le _, rfl, ?_⟩ | refine ⟨_, _, rfl, ?_, ?_⟩ | refine ⟨_, rfl, ?_⟩ | refine Or.inr (Or.inr (Or.inr ⟨_, _, rfl, ?_⟩)) | exact Or.inl rfl | refine Or.inr ?_)) rfl ?_
          refine ⟨by (simp only [sz_app, sz_ba, List.length_cons, List.length_nil]; omega), ?_⟩
          refine (congrArg (fun s => DV.v (.string s)) (ba_ext ?_) : _ = _)
          simp [partT, marksT, wideT, coarseT, tx_app, tx_mk, tx_putD, hwd]
      · refine ev_go (P := Tryz.prog) tt tt_ok 5000 76 [.tmp 4] Tryz.func70 rfl Tryz.ntmps70 rfl (Nat.le_of_ble_eq_true rfl) (fun E9 w9 hn9 hm9 => ?_)
        refine ⟨by (simp only [sz_app, sz_ba, List.length_cons, List.length_nil]; omega), ?_⟩
        refine call_p (enters_of Tryz.func17 (by decide +kernel) rfl) (ht) (by repeat' (first | exact rfl | exact trivial | exact Or.inr (Or.inl ⟨_, rfl⟩) | exact Or.inr ⟨_, rfl⟩ | exact Or.inl ⟨rfl, rfl⟩ | exact Or.inl rfl | refine Or.inr ⟨_, _, rfl, Nat.zero_le _, rfl, ?_⟩ | refine ⟨_, _, rfl, ?_, ?_⟩ | refine ⟨_, rfl, ?_⟩ | refine Or.inr (Or.inr (Or.inr ⟨_, _, rfl, ?_⟩)) | exact Or.inl rfl | refine Or.inr ?_)) rfl ?_
        refine ⟨by (simp only [sz_app, sz_ba, List.length_cons, List.length_nil]; omega), ?_⟩
        refine ⟨by (simp only [sz_app, sz_ba, List.length_cons, List.length_nil]; omega), ?_⟩
        refine call_p (enters_of Tryz.func124 (by decide +kernel) rfl) (label17_spec label (by omega)) (by repeat' (first | exact rfl | exact trivial | exact Or.inr (Or.inl ⟨_, rfl⟩) | exact Or.inr ⟨_, rfl⟩ | exact Or.inl ⟨rfl, rfl⟩ | exact Or.inl rfl | refine Or.inr ⟨_, _, rfl, Nat.zero_le _, rfl, ?_⟩ | refine ⟨_, _, rfl, ?_, ?_⟩ | refine ⟨_, rfl, ?_⟩ | refine Or.inr (Or.inr (Or.inr ⟨_, _, rfl, ?_⟩)) | exact Or.inl rfl | refine Or.inr ?_)) rfl ?_
        refine ⟨by (simp only [sz_app, sz_ba, List.length_cons, List.length_nil]; omega), ?_⟩
        refine br (fun hwd => ?_) (fun hwd => ?_)
        · have hwd := of_decide_eq_true hwd
          refine ⟨by (simp only [sz_app, sz_ba, List.length_cons, List.length_nil]; omega), ?_⟩
          refine call_p (enters_of Tryz.func68 (by decide +kernel) rfl) (put07_spec wide hw.1 hw.2) (by repeat' (first | exact rfl | exact trivial | exact Or.inr (Or.inl ⟨_, rfl⟩) | exact Or.inr ⟨_, rfl⟩ | exact Or.inl ⟨rfl, rfl⟩ | exact Or.inl rfl | refine Or.inr ⟨_, _, rfl, Nat.zero_le _, rfl, ?_⟩ | refine ⟨_, _, rfl, ?_, ?_⟩ | refine ⟨_, rfl, ?_⟩ | refine Or.inr (Or.inr (Or.inr ⟨_, _, rfl, ?_⟩)) | exact Or.inl rfl | refine Or.inr ?_)) rfl ?_
          refine ⟨by (simp only [sz_app, sz_ba, List.length_cons, List.length_nil]; omega), ?_⟩
          refine ⟨by (simp only [sz_app, sz_ba, List.length_cons, List.length_nil]; omega), ?_⟩
          refine call_p (enters_of Tryz.func68 (by decide +kernel) rfl) (put07_spec cn hc.1 hc.2) (by repeat' (first | exact rfl | exact trivial | exact Or.inr (Or.inl ⟨_, rfl⟩) | exact Or.inr ⟨_, rfl⟩ | exact Or.inl ⟨rfl, rfl⟩ | exact Or.inl rfl | refine Or.inr ⟨_, _, rfl, Nat.zero_le _, rfl, ?_⟩ | refine ⟨_, _, rfl, ?_, ?_⟩ | refine ⟨_, rfl, ?_⟩ | refine Or.inr (Or.inr (Or.inr ⟨_, _, rfl, ?_⟩)) | exact Or.inl rfl | refine Or.inr ?_)) rfl ?_
          refine ⟨by (simp only [sz_app, sz_ba, List.length_cons, List.length_nil]; omega), ?_⟩
          refine ⟨by (simp only [sz_app, sz_ba, List.length_cons, List.length_nil]; omega), ?_⟩
          refine call_p (enters_of Tryz.func124 (by decide +kernel) rfl) (label17_spec cl (by omega)) (by repeat' (first | exact rfl | exact trivial | exact Or.inr (Or.inl ⟨_, rfl⟩) | exact Or.inr ⟨_, rfl⟩ | exact Or.inl ⟨rfl, rfl⟩ | exact Or.inl rfl | refine Or.inr ⟨_, _, rfl, Nat.zero_le _, rfl, ?_⟩ | refine ⟨_, _, rfl, ?_, ?_⟩ | refine ⟨_, rfl, ?_⟩ | refine Or.inr (Or.inr (Or.inr ⟨_, _, rfl, ?_⟩)) | exact Or.inl rfl | refine Or.inr ?_)) rfl ?_
          refine ⟨by (simp only [sz_app, sz_ba, List.length_cons, List.length_nil]; omega), ?_⟩
          refine (congrArg (fun s => DV.v (.string s)) (ba_ext ?_) : _ = _)
          simp [partT, marksT, wideT, coarseT, tx_app, tx_mk, tx_putD, hwd]
        · have hwd := of_decide_eq_false hwd
          refine ⟨by (simp only [sz_app, sz_ba, List.length_cons, List.length_nil]; omega), ?_⟩
          refine call_p (enters_of Tryz.func68 (by decide +kernel) rfl) (put07_spec cn hc.1 hc.2) (by repeat' (first | exact rfl | exact trivial | exact Or.inr (Or.inl ⟨_, rfl⟩) | exact Or.inr ⟨_, rfl⟩ | exact Or.inl ⟨rfl, rfl⟩ | exact Or.inl rfl | refine Or.inr ⟨_, _, rfl, Nat.zero_le _, rfl, ?_⟩ | refine ⟨_, _, rfl, ?_, ?_⟩ | refine ⟨_, rfl, ?_⟩ | refine Or.inr (Or.inr (Or.inr ⟨_, _, rfl, ?_⟩)) | exact Or.inl rfl | refine Or.inr ?_)) rfl ?_
          refine ⟨by (simp only [sz_app, sz_ba, List.length_cons, List.length_nil]; omega), ?_⟩
          refine ⟨by (simp only [sz_app, sz_ba, List.length_cons, List.length_nil]; omega), ?_⟩
          refine call_p (enters_of Tryz.func124 (by decide +kernel) rfl) (label17_spec cl (by omega)) (by repeat' (first | exact rfl | exact trivial | exact Or.inr (Or.inl ⟨_, rfl⟩) | exact Or.inr ⟨_, rfl⟩ | exact Or.inl ⟨rfl, rfl⟩ | exact Or.inl rfl | refine Or.inr ⟨_, _, rfl, Nat.zero_le _, rfl, ?_⟩ | refine ⟨_, _, rfl, ?_, ?_⟩ | refine ⟨_, rfl, ?_⟩ | refine Or.inr (Or.inr (Or.inr ⟨_, _, rfl, ?_⟩)) | exact Or.inl rfl | refine Or.inr ?_)) rfl ?_
          refine ⟨by (simp only [sz_app, sz_ba, List.length_cons, List.length_nil]; omega), ?_⟩
          refine (congrArg (fun s => DV.v (.string s)) (ba_ext ?_) : _ = _)
          simp [partT, marksT, wideT, coarseT, tx_app, tx_mk, tx_putD, hwd]
    · cases tag
      · refine ev_go (P := Tryz.prog) tt tt_ok 5000 76 [.tmp 4] Tryz.func70 rfl Tryz.ntmps70 rfl (Nat.le_of_ble_eq_true rfl) (fun E9 w9 hn9 hm9 => ?_)
        refine ⟨by (simp only [sz_app, sz_ba, List.length_cons, List.length_nil]; omega), ?_⟩
        refine call_p (enters_of Tryz.func17 (by decide +kernel) rfl) (ht) (by repeat' (first | exact rfl | exact trivial | exact Or.inr (Or.inl ⟨_, rfl⟩) | exact Or.inr ⟨_, rfl⟩ | exact Or.inl ⟨rfl, rfl⟩ | exact Or.inl rfl | refine Or.inr ⟨_, _, rfl, Nat.zero_le _, rfl, ?_⟩ | refine ⟨_, _, rfl, ?_, ?_⟩ | refine ⟨_, rfl, ?_⟩ | refine Or.inr (Or.inr (Or.inr ⟨_, _, rfl, ?_⟩)) | exact Or.inl rfl | refine Or.inr ?_)) rfl ?_
        refine ⟨by (simp only [sz_app, sz_ba, List.length_cons, List.length_nil]; omega), ?_⟩
        refine call_p (enters_of Tryz.func124 (by decide +kernel) rfl) (label17_spec label (by omega)) (by repeat' (first | exact rfl | exact trivial | exact Or.inr (Or.inl ⟨_, rfl⟩) | exact Or.inr ⟨_, rfl⟩ | exact Or.inl ⟨rfl, rfl⟩ | exact Or.inl rfl | refine Or.inr ⟨_, _, rfl, Nat.zero_le _, rfl, ?_⟩ | refine ⟨_, _, rfl, ?_, ?_⟩ | refine ⟨_, rfl, ?_⟩ | refine Or.inr (Or.inr (Or.inr ⟨_, _, rfl, ?_⟩)) | exact Or.inl rfl | refine Or.inr ?_)) rfl ?_
        refine ⟨by (simp only [sz_app, sz_ba, List.length_cons, List.length_nil]; omega), ?_⟩
        refine br (fun hwd => ?_) (fun hwd => ?_)
        · have hwd := of_decide_eq_true hwd
          refine ⟨by (simp only [sz_app, sz_ba, List.length_cons, List.length_nil]; omega), ?_⟩
          refine call_p (enters_of Tryz.func68 (by decide +kernel) rfl) (put07_spec wide hw.1 hw.2) (by repeat' (first | exact rfl | exact trivial | exact Or.inr (Or.inl ⟨_, rfl⟩) | exact Or.inr ⟨_, rfl⟩ | exact Or.inl ⟨rfl, rfl⟩ | exact Or.inl rfl | refine Or.inr ⟨_, _, rfl, Nat.zero_le _, rfl, ?_⟩ | refine ⟨_, _, rfl, ?_, ?_⟩ | refine ⟨_, rfl, ?_⟩ | refine Or.inr (Or.inr (Or.inr ⟨_, _, rfl, ?_⟩)) | exact Or.inl rfl | refine Or.inr ?_)) rfl ?_
          refine ⟨by (simp only [sz_app, sz_ba, List.length_cons, List.length_nil]; omega), ?_⟩
          refine ⟨by (simp only [sz_app, sz_ba, List.length_cons, List.length_nil]; omega), ?_⟩
          refine call_p (enters_of Tryz.func124 (by decide +kernel) rfl) (label17_spec cl (by omega)) (by repeat' (first | exact rfl | exact trivial | exact Or.inr (Or.inl ⟨_, rfl⟩) | exact Or.inr ⟨_, rfl⟩ | exact Or.inl ⟨rfl, rfl⟩ | exact Or.inl rfl | refine Or.inr ⟨_, _, rfl, Nat.zero_le _, rfl, ?_⟩ | refine ⟨_, _, rfl, ?_, ?_⟩ | refine ⟨_, rfl, ?_⟩ | refine Or.inr (Or.inr (Or.inr ⟨_, _, rfl, ?_⟩)) | exact Or.inl rfl | refine Or.inr ?_)) rfl ?_
          refine ⟨by (simp only [sz_app, sz_ba, List.length_cons, List.length_nil]; omega), ?_⟩
          refine (congrArg (fun s => DV.v (.string s)) (ba_ext ?_) : _ = _)
          simp [partT, marksT, wideT, coarseT, tx_app, tx_mk, tx_putD, hwd]
        · have hwd := of_decide_eq_false hwd
          refine ⟨by (simp only [sz_app, sz_ba, List.length_cons, List.length_nil]; omega), ?_⟩
          refine call_p (enters_of Tryz.func124 (by decide +kernel) rfl) (label17_spec cl (by omega)) (by repeat' (first | exact rfl | exact trivial | exact Or.inr (Or.inl ⟨_, rfl⟩) | exact Or.inr ⟨_, rfl⟩ | exact Or.inl ⟨rfl, rfl⟩ | exact Or.inl rfl | refine Or.inr ⟨_, _, rfl, Nat.zero_le _, rfl, ?_⟩ | refine ⟨_, _, rfl, ?_, ?_⟩ | refine ⟨_, rfl, ?_⟩ | refine Or.inr (Or.inr (Or.inr ⟨_, _, rfl, ?_⟩)) | exact Or.inl rfl | refine Or.inr ?_)) rfl ?_
          refine ⟨by (simp only [sz_app, sz_ba, List.length_cons, List.length_nil]; omega), ?_⟩
          refine (congrArg (fun s => DV.v (.string s)) (ba_ext ?_) : _ = _)
          simp [partT, marksT, wideT, coarseT, tx_app, tx_mk, tx_putD, hwd]
      · refine ev_go (P := Tryz.prog) tt tt_ok 5000 76 [.tmp 4] Tryz.func70 rfl Tryz.ntmps70 rfl (Nat.le_of_ble_eq_true rfl) (fun E9 w9 hn9 hm9 => ?_)
        refine ⟨by (simp only [sz_app, sz_ba, List.length_cons, List.length_nil]; omega), ?_⟩
        refine call_p (enters_of Tryz.func17 (by decide +kernel) rfl) (ht) (by repeat' (first | exact rfl | exact trivial | exact Or.inr (Or.inl ⟨_, rfl⟩) | exact Or.inr ⟨_, rfl⟩ | exact Or.inl ⟨rfl, rfl⟩ | exact Or.inl rfl | refine Or.inr ⟨_, _, rfl, Nat.zero_le _, rfl, ?_⟩ | refine ⟨_, _, rfl, ?_, ?_⟩ | refine ⟨_, rfl, ?_⟩ | refine Or.inr (Or.inr (Or.inr ⟨_, _, rfl, ?_⟩)) | exact Or.inl rfl | refine Or.inr ?_)) rfl ?_
        refine ⟨by (simp only [sz_app, sz_ba, List.length_cons, List.length_nil]; omega), ?_⟩
        refine ⟨by (simp only [sz_app, sz_ba, List.length_cons, List.length_nil]; omega), ?_⟩
        refine call_p (enters_of Tryz.func124 (by decide +kernel) rfl) (label17_spec label (by omega)) (by repeat' (first | exact rfl | exact trivial | exact Or.inr (Or.inl ⟨_, rfl⟩) | exact Or.inr ⟨_, rfl⟩ | exact Or.inl ⟨rfl, rfl⟩ | exact Or.inl rfl | refine Or.inr ⟨_, _, rfl, Nat.zero_le _, rfl, ?_⟩ | refine ⟨_, _, rfl, ?_, ?_⟩ | refine ⟨_, rfl, ?_⟩ | refine Or.inr (Or.inr (Or.inr ⟨_, _, rfl, ?_⟩)) | exact Or.inl rfl | refine Or.inr ?_)) rfl ?_
        refine ⟨by (simp only [sz_app, sz_ba, List.length_cons, List.length_nil]; omega), ?_⟩
        refine br (fun hwd => ?_) (fun hwd => ?_)
        · have hwd := of_decide_eq_true hwd
          refine ⟨by (simp only [sz_app, sz_ba, List.length_cons, List.length_nil]; omega), ?_⟩
          refine call_p (enters_of Tryz.func68 (by decide +kernel) rfl) (put07_spec wide hw.1 hw.2) (by repeat' (first | exact rfl | exact trivial | exact Or.inr (Or.inl ⟨_, rfl⟩) | exact Or.inr ⟨_, rfl⟩ | exact Or.inl ⟨rfl, rfl⟩ | exact Or.inl rfl | refine Or.inr ⟨_, _, rfl, Nat.zero_le _, rfl, ?_⟩ | refine ⟨_, _, rfl, ?_, ?_⟩ | refine ⟨_, rfl, ?_⟩ | refine Or.inr (Or.inr (Or.inr ⟨_, _, rfl, ?_⟩)) | exact Or.inl rfl | refine Or.inr ?_)) rfl ?_
          refine ⟨by (simp only [sz_app, sz_ba, List.length_cons, List.length_nil]; omega), ?_⟩
          refine ⟨by (simp only [sz_app, sz_ba, List.length_cons, List.length_nil]; omega), ?_⟩
          refine call_p (enters_of Tryz.func124 (by decide +kernel) rfl) (label17_spec cl (by omega)) (by repeat' (first | exact rfl | exact trivial | exact Or.inr (Or.inl ⟨_, rfl⟩) | exact Or.inr ⟨_, rfl⟩ | exact Or.inl ⟨rfl, rfl⟩ | exact Or.inl rfl | refine Or.inr ⟨_, _, rfl, Nat.zero_le _, rfl, ?_⟩ | refine ⟨_, _, rfl, ?_, ?_⟩ | refine ⟨_, rfl, ?_⟩ | refine Or.inr (Or.inr (Or.inr ⟨_, _, rfl, ?_⟩)) | exact Or.inl rfl | refine Or.inr ?_)) rfl ?_
          refine ⟨by (simp only [sz_app, sz_ba, List.length_cons, List.length_nil]; omega), ?_⟩
          refine (congrArg (fun s => DV.v (.string s)) (ba_ext ?_) : _ = _)
          simp [partT, marksT, wideT, coarseT, tx_app, tx_mk, tx_putD, hwd]
        · have hwd := of_decide_eq_false hwd
          refine ⟨by (simp only [sz_app, sz_ba, List.length_cons, List.length_nil]; omega), ?_⟩
          refine call_p (enters_of Tryz.func124 (by decide +kernel) rfl) (label17_spec cl (by omega)) (by repeat' (first | exact rfl | exact trivial | exact Or.inr (Or.inl ⟨_, rfl⟩) | exact Or.inr ⟨_, rfl⟩ | exact Or.inl ⟨rfl, rfl⟩ | exact Or.inl rfl | refine Or.inr ⟨_, _, rfl, Nat.zero_le _, rfl, ?_⟩ | refine ⟨_, _, rfl, ?_, ?_⟩ | refine ⟨_, rfl, ?_⟩ | refine Or.inr (Or.inr (Or.inr ⟨_, _, rfl, ?_⟩)) | exact Or.inl rfl | refine Or.inr ?_)) rfl ?_
          refine ⟨by (simp only [sz_app, sz_ba, List.length_cons, List.length_nil]; omega), ?_⟩
          refine (congrArg (fun s => DV.v (.string s)) (ba_ext ?_) : _ = _)
          simp [partT, marksT, wideT, coarseT, tx_app, tx_mk, tx_putD, hwd]
    · cases tag
      · refine ev_go (P := Tryz.prog) tt tt_ok 5000 76 [.tmp 4] Tryz.func70 rfl Tryz.ntmps70 rfl (Nat.le_of_ble_eq_true rfl) (fun E9 w9 hn9 hm9 => ?_)
        refine ⟨by (simp only [sz_app, sz_ba, List.length_cons, List.length_nil]; omega), ?_⟩
        refine call_p (enters_of Tryz.func17 (by decide +kernel) rfl) (ht) (by repeat' (first | exact rfl | exact trivial | exact Or.inr (Or.inl ⟨_, rfl⟩) | exact Or.inr ⟨_, rfl⟩ | exact Or.inl ⟨rfl, rfl⟩ | exact Or.inl rfl | refine Or.inr ⟨_, _, rfl, Nat.zero_le _, rfl, ?_⟩ | refine ⟨_, _, rfl, ?_, ?_⟩ | refine ⟨_, rfl, ?_⟩ | refine Or.inr (Or.inr (Or.inr ⟨_, _, rfl, ?_⟩)) | exact Or.inl rfl | refine Or.inr ?_)) rfl ?_
        refine ⟨by (simp only [sz_app, sz_ba, List.length_cons, List.length_nil]; omega), ?_⟩
        refine call_p (enters_of Tryz.func124 (by decide +kernel) rfl) (label17_spec label (by omega)) (by repeat' (first | exact rfl | exact trivial | exact Or.inr (Or.inl ⟨_, rfl⟩) | exact Or.inr ⟨_, rfl⟩ | exact Or.inl ⟨rfl, rfl⟩ | exact Or.inl rfl | refine Or.inr ⟨_, _, rfl, Nat.zero_le _, rfl, ?_⟩ | refine ⟨_, _, rfl, ?_, ?_⟩ | refine ⟨_, rfl, ?_⟩ | refine Or.inr (Or.inr (Or.inr ⟨_, _, rfl, ?_⟩)) | exact Or.inl rfl | refine Or.inr ?_)) rfl ?_
        refine ⟨by (simp only [sz_app, sz_ba, List.length_cons, List.length_nil]; omega), ?_⟩
        refine br (fun hwd => ?_) (fun hwd => ?_)
        · have hwd := of_decide_eq_true hwd
          refine ⟨by (simp only [sz_app, sz_ba, List.length_cons, List.length_nil]; omega), ?_⟩
          refine call_p (enters_of Tryz.func68 (by decide +kernel) rfl) (put07_spec wide hw.1 hw.2) (by repeat' (first | exact rfl | exact trivial | exact Or.inr (Or.inl ⟨_, rfl⟩) | exact Or.inr ⟨_, rfl⟩ | exact Or.inl ⟨rfl, rfl⟩ | exact Or.inl rfl | refine Or.inr ⟨_, _, rfl, Nat.zero_le _, rfl, ?_⟩ | refine ⟨_, _, rfl, ?_, ?_⟩ | refine ⟨_, rfl, ?_⟩ | refine Or.inr (Or.inr (Or.inr ⟨_, _, rfl, ?_⟩)) | exact Or.inl rfl | refine Or.inr ?_)) rfl ?_
          refine ⟨by (simp only [sz_app, sz_ba, List.length_cons, List.length_nil]; omega), ?_⟩
          refine br (fun h => absurd (of_decide_eq_true h) k1) (fun _ => ?_)
          refine br (fun h => absurd (of_decide_eq_true h) k2) (fun _ => ?_)
          refine br (fun h => absurd (of_decide_eq_true h) k3) (fun _ => ?_)
          refine call_p (enters_of Tryz.func124 (by decide +kernel) rfl) (label17_spec cl (by omega)) (by repeat' (first | exact rfl | exact trivial | exact Or.inr (Or.inl ⟨_, rfl⟩) | exact Or.inr ⟨_, rfl⟩ | exact Or.inl ⟨rfl, rfl⟩ | exact Or.inl rfl | refine Or.inr ⟨_, _, rfl, Nat.zero_le _, rfl, ?_⟩ | refine ⟨_, _, rfl, ?_, ?_⟩ | refine ⟨_, rfl, ?_⟩ | refine Or.inr (Or.inr (Or.inr ⟨_, _, rfl, ?_⟩)) | exact Or.inl rfl | refine Or.inr ?_)) rfl ?_
          refine ⟨by (simp only [sz_app, sz_ba, List.length_cons, List.length_nil]; omega), ?_⟩
          refine (congrArg (fun s => DV.v (.string s)) (ba_ext ?_) : _ = _)
          simp [partT, marksT, wideT, coarseT, tx_app, tx_mk, tx_putD, hwd, k1, k2, k3]
        · have hwd := of_decide_eq_false hwd
          refine br (fun h => absurd (of_decide_eq_true h) k1) (fun _ => ?_)
          refine br (fun h => absurd (of_decide_eq_true h) k2) (fun _ => ?_)
          refine br (fun h => absurd (of_decide_eq_true h) k3) (fun _ => ?_)
          refine call_p (enters_of Tryz.func124 (by decide +kernel) rfl) (label17_spec cl (by omega)) (by repeat' (first | exact rfl | exact trivial | exact Or.inr (Or.inl ⟨_, rfl⟩) | exact Or.inr ⟨_, rfl⟩ | exact Or.inl ⟨rfl, rfl⟩ | exact Or.inl rfl | refine Or.inr ⟨_, _, rfl, Nat.zero_le _, rfl, ?_⟩ | refine ⟨_, _, rfl, ?_, ?_⟩ | refine ⟨_, rfl, ?_⟩ | refine Or.inr (Or.inr (Or.inr ⟨_, _, rfl, ?_⟩)) | exact Or.inl rfl | refine Or.inr ?_)) rfl ?_
          refine ⟨by (simp only [sz_app, sz_ba, List.length_cons, List.length_nil]; omega), ?_⟩
          refine (congrArg (fun s => DV.v (.string s)) (ba_ext ?_) : _ = _)
          simp [partT, marksT, wideT, coarseT, tx_app, tx_mk, tx_putD, hwd, k1, k2, k3]
      · refine ev_go (P := Tryz.prog) tt tt_ok 5000 76 [.tmp 4] Tryz.func70 rfl Tryz.ntmps70 rfl (Nat.le_of_ble_eq_true rfl) (fun E9 w9 hn9 hm9 => ?_)
        refine ⟨by (simp only [sz_app, sz_ba, List.length_cons, List.length_nil]; omega), ?_⟩
        refine call_p (enters_of Tryz.func17 (by decide +kernel) rfl) (ht) (by repeat' (first | exact rfl | exact trivial | exact Or.inr (Or.inl ⟨_, rfl⟩) | exact Or.inr ⟨_, rfl⟩ | exact Or.inl ⟨rfl, rfl⟩ | exact Or.inl rfl | refine Or.inr ⟨_, _, rfl, Nat.zero_le _, rfl, ?_⟩ | refine ⟨_, _, rfl, ?_, ?_⟩ | refine ⟨_, rfl, ?_⟩ | refine Or.inr (Or.inr (Or.inr ⟨_, _, rfl, ?_⟩)) | exact Or.inl rfl | refine Or.inr ?_)) rfl ?_
        refine ⟨by (simp only [sz_app, sz_ba, List.length_cons, List.length_nil]; omega), ?_⟩
        refine ⟨by (simp only [sz_app, sz_ba, List.length_cons, List.length_nil]; omega), ?_⟩
        refine call_p (enters_of Tryz.func124 (by decide +kernel) rfl) (label17_spec label (by omega)) (by repeat' (first | exact rfl | exact trivial | exact Or.inr (Or.inl ⟨_, rfl⟩) | exact Or.inr ⟨_, rfl⟩ | exact Or.inl ⟨rfl, rfl⟩ | exact Or.inl rfl | refine Or.inr ⟨_, _, rfl, Nat.zero_le _, rfl, ?_⟩ | refine ⟨_, _, rfl, ?_, ?_⟩ | refine ⟨_, rfl, ?_⟩ | refine Or.inr (Or.inr (Or.inr ⟨_, _, rfl, ?_⟩)) | exact Or.inl rfl | refine Or.inr ?_)) rfl ?_
        refine ⟨by (simp only [sz_app, sz_ba, List.length_cons, List.length_nil]; omega), ?_⟩
        refine br (fun hwd => ?_) (fun hwd => ?_)
        · have hwd := of_decide_eq_true hwd
          refine ⟨by (simp only [sz_app, sz_ba, List.length_cons, List.length_nil]; omega), ?_⟩
          refine call_p (enters_of Tryz.func68 (by decide +kernel) rfl) (put07_spec wide hw.1 hw.2) (by repeat' (first | exact rfl | exact trivial | exact Or.inr (Or.inl ⟨_, rfl⟩) | exact Or.inr ⟨_, rfl⟩ | exact Or.inl ⟨rfl, rfl⟩ | exact Or.inl rfl | refine Or.inr ⟨_, _, rfl, Nat.zero_le _, rfl, ?_⟩ | refine ⟨_, _, rfl, ?_, ?_⟩ | refine ⟨_, rfl, ?_⟩ | refine Or.inr (Or.inr (Or.inr ⟨_, _, rfl, ?_⟩)) | exact Or.inl rfl | refine Or.inr ?_)) rfl ?_
          refine ⟨by (simp only [sz_app, sz_ba, List.length_cons, List.length_nil]; omega), ?_⟩
          refine br (fun h => absurd (of_decide_eq_true h) k1) (fun _ => ?_)
          refine br (fun h => absurd (of_decide_eq_true h) k2) (fun _ => ?_)
          refine br (fun h => absurd (of_decide_eq_true h) k3) (fun _ => ?_)
          refine call_p (enters_of Tryz.func124 (by decide +kernel) rfl) (label17_spec cl (by omega)) (by repeat' (first | exact rfl | exact trivial | exact Or.inr (Or.inl ⟨_, rfl⟩) | exact Or.inr ⟨_, rfl⟩ | exact Or.inl ⟨rfl, rfl⟩ | exact Or.inl rfl | refine Or.inr ⟨_, _, rfl, Nat.zero_le _, rfl, ?_⟩ | refine ⟨_, _, rfl, ?_, ?_⟩ | refine ⟨_, rfl, ?_⟩ | refine Or.inr (Or.inr (Or.inr ⟨_, _, rfl, ?_⟩)) | exact Or.inl rfl | refine Or.inr ?_)) rfl ?_
          refine ⟨by (simp only [sz_app, sz_ba, List.length_cons, List.length_nil]; omega), ?_⟩
          refine (congrArg (fun s => DV.v (.string s)) (ba_ext ?_) : _ = _)
          simp [partT, marksT, wideT, coarseT, tx_app, tx_mk, tx_putD, hwd, k1, k2, k3]
        · have hwd := of_decide_eq_false hwd
          refine br (fun h => absurd (of_decide_eq_true h) k1) (fun _ => ?_)
          refine br (fun h => absurd (of_decide_eq_true h) k2) (fun _ => ?_)
          refine br (fun h => absurd (of_decide_eq_true h) k3) (fun _ => ?_)
          refine call_p (enters_of Tryz.func124 (by decide +kernel) rfl) (label17_spec cl (by omega)) (by repeat' (first | exact rfl | exact trivial | exact Or.inr (Or.inl ⟨_, rfl⟩) | exact Or.inr ⟨_, rfl⟩ | exact Or.inl ⟨rfl, rfl⟩ | exact Or.inl rfl | refine Or.inr ⟨_, _, rfl, Nat.zero_le _, rfl, ?_⟩ | refine ⟨_, _, rfl, ?_, ?_⟩ | refine ⟨_, rfl, ?_⟩ | refine Or.inr (Or.inr (Or.inr ⟨_, _, rfl, ?_⟩)) | exact Or.inl rfl | refine Or.inr ?_)) rfl ?_
          refine ⟨by (simp only [sz_app, sz_ba, List.length_cons, List.length_nil]; omega), ?_⟩
          refine (congrArg (fun s => DV.v (.string s)) (ba_ext ?_) : _ = _)
          simp [partT, marksT, wideT, coarseT, tx_app, tx_mk, tx_putD, hwd, k1, k2, k3]
  · obtain ⟨th, tps⟩ := t
    refine ev_go (P := Tryz.prog) tt tt_ok 5000 76 [.tmp 4] Tryz.func70 rfl Tryz.ntmps70 rfl (Nat.le_of_ble_eq_true rfl) (fun E9 w9 hn9 hm9 => ?_)
    refine (congrArg (fun s => DV.v (.string s)) (ba_ext ?_) : _ = _)
    simp [partT]
end Go.Proofs.YtmphiikdhifhjaaGreat
set_option maxRecDepth 100000
namespace Go.Proofs.YtmphiikdhifhjaaGreat
open Go Go.RowKit Dv Tryz

abbrev tyNSt (h : Hd) (ps : Pts) (e : Nat) : St :=
  ⟨[(1, ⟨[], .loc 0 0⟩), (3, ⟨[], .v (.string (ba ([101, 110, 117, 109, 40] ++ joinT [] [44, 32] ((h.names.map wdT).take e))))⟩), (4, ⟨[], .v (.string ⟨#[41]⟩)⟩), (5, ⟨[], .v (.int .i64 e)⟩)], [dTy (.mk h ps)], []⟩
abbrev tyPSt (h : Hd) (ps : Pts) (tag : Bool) (pre : List UInt8) (e : Nat) : St :=
  ⟨[(1, ⟨[], .loc 0 0⟩), (3, ⟨[], .v (.string (ba (pre ++ joinT [] [44, 32] ((ptsT tag ps).take e))))⟩), (4, ⟨[], .v (.string ⟨#[125]⟩)⟩), (6, ⟨[], .v (.int .i64 e)⟩)], [dTy (.mk h ps)], []⟩

theorem type17_any : ∀ (k : Nat) (t : Ty), t.wt ≤ k → t.wt ≤ 1099511627776 → fineT t →
    EvP Tryz.prog 17 [.agg (dTy t)] (.v (.string (ba (tyT t))))
  | 0, t, hn, _, _ => by have := t.wt_pos; omega
  | k + 1, .mk h ps, hn, hbig, hf => by
    have ih := type17_any k
    have hlen := tyT_len hf
    simp only [Ty.wt, Hd.wt, Wd.wt] at hn hbig hlen
    simp only [fineT] at hf
    obtain ⟨f1, f2, f3, f4, f5, f6⟩ := hf
    have l1 := putD_size f1.1 f1.2
    have l2 := putD_size f2.1 f2.2
    have l3 := putD_size f3.1 f3.2
    have lp := Pts.wt_len ps
    have lw := wdsWt_len h.names
    obtain ⟨kind, at', lo, hi, most, names, name⟩ := h
    simp only at hn hbig hlen f1 f2 f3 f4 f5 f6 l1 l2 l3 lw
    refine ev_go (P := Tryz.prog) tt tt_ok 5000 112 [.tmp 2] Tryz.func17 rfl Tryz.ntmps17 rfl (Nat.le_of_ble_eq_true rfl) (fun E9 w9 hn9 hm9 => ?_)
    refine br (fun k1 => ?_) (fun k1 => ?_)
    · have k1 := of_decide_eq_true k1
      subst k1
      refine (congrArg (fun s => DV.v (.string s)) (ba_ext ?_) : _ = _)
      simp [tyT, headT, tx_mk]
    have k1 : ¬ kind = 1 := of_decide_eq_false k1
    refine br (fun k2 => ?_) (fun k2 => ?_)
    · have k2 := of_decide_eq_true k2
      subst k2
      refine drawG_i (fun _ => false) mo (by decide +kernel) ?_
      refine callD_p (enters_of Tryz.func68 (by decide +kernel) rfl) (put07_spec lo f1.1 f1.2) (by repeat' (first | exact rfl | exact trivial | exact Or.inr (Or.inl ⟨_, rfl⟩) | exact Or.inr ⟨_, rfl⟩ | exact Or.inl ⟨rfl, rfl⟩ | exact Or.inl rfl | refine Or.inr ⟨_, _, rfl, Nat.zero_le _, rfl, ?_⟩ | refine ⟨_, _, rfl, ?_, ?_⟩ | refine ⟨_, rfl, ?_⟩ | refine Or.inr (Or.inr (Or.inr ⟨_, _, rfl, ?_⟩)) | exact Or.inl rfl | refine Or.inr ?_)) rfl ?_
      refine ⟨by (simp only [sz_app, sz_ba, List.length_cons, List.length_nil]; omega), ?_⟩
      refine ⟨by (simp only [sz_app, sz_ba, List.length_cons, List.length_nil]; omega), ?_⟩
      refine callD_p (enters_of Tryz.func68 (by decide +kernel) rfl) (put07_spec hi f2.1 f2.2) (by repeat' (first | exact rfl | exact trivial | exact Or.inr (Or.inl ⟨_, rfl⟩) | exact Or.inr ⟨_, rfl⟩ | exact Or.inl ⟨rfl, rfl⟩ | exact Or.inl rfl | refine Or.inr ⟨_, _, rfl, Nat.zero_le _, rfl, ?_⟩ | refine ⟨_, _, rfl, ?_, ?_⟩ | refine ⟨_, rfl, ?_⟩ | refine Or.inr (Or.inr (Or.inr ⟨_, _, rfl, ?_⟩)) | exact Or.inl rfl | refine Or.inr ?_)) rfl ?_
      refine ⟨by (simp only [sz_app, sz_ba, List.length_cons, List.length_nil]; omega), ?_⟩
      refine ⟨by (simp only [sz_app, sz_ba, List.length_cons, List.length_nil]; omega), ?_⟩
      refine (congrArg (fun s => DV.v (.string s)) (ba_ext ?_) : _ = _)
      simp [tyT, headT, tx_app, tx_mk, tx_putD]
    have k2 : ¬ kind = 2 := of_decide_eq_false k2
    refine br (fun k3 => ?_) (fun k3 => ?_)
    · have k3 := of_decide_eq_true k3
      subst k3
      refine call_p (enters_of Tryz.func68 (by decide +kernel) rfl) (put07_spec most f3.1 f3.2) (by repeat' (first | exact rfl | exact trivial | exact Or.inr (Or.inl ⟨_, rfl⟩) | exact Or.inr ⟨_, rfl⟩ | exact Or.inl ⟨rfl, rfl⟩ | exact Or.inl rfl | refine Or.inr ⟨_, _, rfl, Nat.zero_le _, rfl, ?_⟩ | refine ⟨_, _, rfl, ?_, ?_⟩ | refine ⟨_, rfl, ?_⟩ | refine Or.inr (Or.inr (Or.inr ⟨_, _, rfl, ?_⟩)) | exact Or.inl rfl | refine Or.inr ?_)) rfl ?_
      refine ⟨by (simp only [sz_app, sz_ba, List.length_cons, List.length_nil]; omega), ?_⟩
      refine ⟨by (simp only [sz_app, sz_ba, List.length_cons, List.length_nil]; omega), ?_⟩
      refine (congrArg (fun s => DV.v (.string s)) (ba_ext ?_) : _ = _)
      simp [tyT, headT, tx_app, tx_mk, tx_putD]
    have k3 : ¬ kind = 3 := of_decide_eq_false k3
    have hone : kind = 5 ∨ kind = 6 → ∃ p u us, ps = .cons p (.mk u us) .nil ∧ fineT (.mk u us) := by
      intro hk
      match ps, f5 hk, f6 with
      | .cons p (.mk u us) .nil, _, f6 =>
        simp only [fineP] at f6
        have hb : p.bare = false := by
          cases hb : p.bare
          · rfl
          · have := f6.2.2.1 hb; omega
        exact ⟨p, u, us, rfl, (f6.2.2.2.1 hb).2⟩
      | .cons p t (.cons q u r), h, _ => simp [Pts.len] at h
    refine br (fun k5 => ?_) (fun k5 => ?_)
    · have k5 := of_decide_eq_true k5
      subst k5
      obtain ⟨p, u, us, rfl, hfu⟩ := hone (.inl rfl)
      have hlu := tyT_len hfu
      simp only [Pts.wt] at hn hbig
      refine drawG_i (fun _ => false) mo (by decide +kernel) ?_
      refine ⟨dPh p (dTy (.mk u us)), ⟨by omega, rfl⟩, ?_⟩
      refine callD_p (enters_of Tryz.func17 (by decide +kernel) rfl) (ih (.mk u us) (by omega) (by omega) hfu) (by repeat' (first | exact rfl | exact trivial | exact Or.inr (Or.inl ⟨_, rfl⟩) | exact Or.inr ⟨_, rfl⟩ | exact Or.inl ⟨rfl, rfl⟩ | exact Or.inl rfl | refine Or.inr ⟨_, _, rfl, Nat.zero_le _, rfl, ?_⟩ | refine ⟨_, _, rfl, ?_, ?_⟩ | refine ⟨_, rfl, ?_⟩ | refine Or.inr (Or.inr (Or.inr ⟨_, _, rfl, ?_⟩)) | exact Or.inl rfl | refine Or.inr ?_)) rfl ?_
      refine ⟨by (simp only [sz_app, sz_ba, List.length_cons, List.length_nil]; omega), ?_⟩
      refine ⟨by (simp only [sz_app, sz_ba, List.length_cons, List.length_nil]; omega), ?_⟩
      refine callD_p (enters_of Tryz.func68 (by decide +kernel) rfl) (put07_spec most f3.1 f3.2) (by repeat' (first | exact rfl | exact trivial | exact Or.inr (Or.inl ⟨_, rfl⟩) | exact Or.inr ⟨_, rfl⟩ | exact Or.inl ⟨rfl, rfl⟩ | exact Or.inl rfl | refine Or.inr ⟨_, _, rfl, Nat.zero_le _, rfl, ?_⟩ | refine ⟨_, _, rfl, ?_, ?_⟩ | refine ⟨_, rfl, ?_⟩ | refine Or.inr (Or.inr (Or.inr ⟨_, _, rfl, ?_⟩)) | exact Or.inl rfl | refine Or.inr ?_)) rfl ?_
      refine ⟨by (simp only [sz_app, sz_ba, List.length_cons, List.length_nil]; omega), ?_⟩
      refine ⟨by (simp only [sz_app, sz_ba, List.length_cons, List.length_nil]; omega), ?_⟩
      refine (congrArg (fun s => DV.v (.string s)) (ba_ext ?_) : _ = _)
      simp [tyT.eq_1 ⟨5, at', lo, hi, most, names, name⟩, headT, firstT, tx_app, tx_mk, tx_putD]
    have k5 : ¬ kind = 5 := of_decide_eq_false k5
    refine br (fun k6 => ?_) (fun k6 => ?_)
    · have k6 := of_decide_eq_true k6
      subst k6
      obtain ⟨p, u, us, rfl, hfu⟩ := hone (.inr rfl)
      have hlu := tyT_len hfu
      simp only [Pts.wt] at hn hbig
      refine ⟨dPh p (dTy (.mk u us)), ⟨by omega, rfl⟩, ?_⟩
      refine call_p (enters_of Tryz.func17 (by decide +kernel) rfl) (ih (.mk u us) (by omega) (by omega) hfu) (by repeat' (first | exact rfl | exact trivial | exact Or.inr (Or.inl ⟨_, rfl⟩) | exact Or.inr ⟨_, rfl⟩ | exact Or.inl ⟨rfl, rfl⟩ | exact Or.inl rfl | refine Or.inr ⟨_, _, rfl, Nat.zero_le _, rfl, ?_⟩ | refine ⟨_, _, rfl, ?_, ?_⟩ | refine ⟨_, rfl, ?_⟩ | refine Or.inr (Or.inr (Or.inr ⟨_, _, rfl, ?_⟩)) | exact Or.inl rfl | refine Or.inr ?_)) rfl ?_
      refine ⟨by (simp only [sz_app, sz_ba, List.length_cons, List.length_nil]; omega), ?_⟩
      refine ⟨by (simp only [sz_app, sz_ba, List.length_cons, List.length_nil]; omega), ?_⟩
      refine (congrArg (fun s => DV.v (.string s)) (ba_ext ?_) : _ = _)
      simp [tyT.eq_1 ⟨6, at', lo, hi, most, names, name⟩, headT, firstT, tx_app, tx_mk, tx_putD]
    have k6 : ¬ kind = 6 := of_decide_eq_false k6
    refine br (fun k9 => ?_) (fun k9 => ?_)
    · have k9 := of_decide_eq_true k9
      subst k9
      refine ⟨by (simp only [sz_app, sz_ba, List.length_cons, List.length_nil]; omega), ?_⟩
      refine ⟨by (simp only [sz_app, sz_ba, List.length_cons, List.length_nil]; omega), ?_⟩
      refine (congrArg (fun s => DV.v (.string s)) (ba_ext ?_) : _ = _)
      simp [tyT, headT, tx_app, tx_mk]
    have k9 : ¬ kind = 9 := of_decide_eq_false k9
    refine loop_i (fun j st => ∃ e : Nat, st = tyNSt ⟨kind, at', lo, hi, most, names, name⟩ ps e ∧ e ≤ names.length ∧ j = names.length - e) names.length (tyNSt ⟨kind, at', lo, hi, most, names, name⟩ ps 0) (weak_mk ⟨_, rfl⟩ (by repeat' (first | exact rfl | exact we_rfl rfl | refine ⟨_, _, rfl, ?_, ?_⟩)) rfl rfl rfl (by repeat' (first | exact trivial | exact we_rfl rfl | refine ⟨⟨_, rfl, ?_⟩, ?_⟩))) ⟨0, rfl, by omega, rfl⟩ ?_
    rintro j st ⟨e, rfl, he, rfl⟩
    have j1 := joinT_len (f := []) (s := [44, 32]) (by simp) (by simp) ((names.map wdT).take e)
    have j2 := jl_take (names.map wdT) e
    have j3 := jl_wds names
    refine br (fun hlt => ?_) (fun hlt => ?_)
    · have hlt : e < names.length := by simpa [dWds_len] using hlt
      obtain ⟨w, hw⟩ : ∃ w, names[e]? = some w := ⟨_, List.getElem?_eq_getElem hlt⟩
      have hws := wdsWt_mem (List.mem_of_getElem? hw)
      refine drawG_i (fun _ => false) mo (by decide +kernel) ?_
      refine callD_p (enters_of Tryz.func69 (by decide +kernel) rfl) (comma17_spec (ba ([101, 110, 117, 109, 40] ++ joinT [] [44, 32] ((names.map wdT).take e))) e (by rw [sz_ba, List.length_append]; simp only [List.length_cons, List.length_nil]; omega)) (by repeat' (first | exact rfl | exact trivial | exact Or.inr (Or.inl ⟨_, rfl⟩) | exact Or.inr ⟨_, rfl⟩ | exact Or.inl ⟨rfl, rfl⟩ | exact Or.inl rfl | refine Or.inr ⟨_, _, rfl, Nat.zero_le _, rfl, ?_⟩ | refine ⟨_, _, rfl, ?_, ?_⟩ | refine ⟨_, rfl, ?_⟩ | refine Or.inr (Or.inr (Or.inr ⟨_, _, rfl, ?_⟩)) | exact Or.inl rfl | refine Or.inr ?_)) rfl ?_
      refine ⟨dWd w, ⟨by omega, dWds_get hw⟩, ?_⟩
      have e1 : ba (tx (ba ([101, 110, 117, 109, 40] ++ joinT [] [44, 32] ((names.map wdT).take e))) ++ (if e = 0 then [] else [44, 32])) ++ w.s = ba ([101, 110, 117, 109, 40] ++ joinT [] [44, 32] ((names.map wdT).take (e + 1))) := by
        refine ba_ext ?_
        rw [joinT_take (l := names.map wdT) (x := wdT w) (by simp [hw])]
        simp only [tx_app, tx_ba, wdT, List.append_assoc]
      refine ⟨by rw [sz_ba, List.length_append, tx_len, sz_ba, List.length_append]; simp only [List.length_cons, List.length_nil]; split <;> simp only [List.length_cons, List.length_nil] <;> omega, ?_⟩
      refine ⟨tyNSt ⟨kind, at', lo, hi, most, names, name⟩ ps (e + 1), (weak_mk ⟨_, rfl⟩ (by repeat' (first | exact rfl | exact we_rfl rfl | refine ⟨_, _, rfl, ?_, ?_⟩)) rfl rfl rfl (by repeat' (first | exact trivial | exact we_rfl rfl | exact we_int (nxt hlt (by omega)) | exact we_str e1 | refine ⟨⟨_, rfl, ?_⟩, ?_⟩))), names.length - (e + 1), by omega, e + 1, rfl, by omega, rfl⟩
    · have hge : e = names.length := by
        have := hlt; simp [dWds_len] at this; omega
      have hk : kind = 4 ∨ kind = 7 ∨ kind = 8 := by omega
      rcases hk with rfl | rfl | rfl
      · refine ⟨by rw [sz_ba, List.length_append]; simp only [sz_ba, List.length_cons, List.length_nil]; omega, ?_⟩
        refine (congrArg (fun s => DV.v (.string s)) (ba_ext ?_) : _ = _)
        rw [hge, List.take_of_length_le (by simp)]
        simp [tyT, headT, tx_app, tx_mk]
      · have jp := ptsT_len (tag := false) f6
        refine loop_i (fun j st => ∃ e : Nat, st = tyPSt ⟨7, at', lo, hi, most, names, name⟩ ps false [114, 101, 99, 111, 114, 100, 123] e ∧ e ≤ ps.len ∧ j = ps.len - e) ps.len (tyPSt ⟨7, at', lo, hi, most, names, name⟩ ps false [114, 101, 99, 111, 114, 100, 123] 0) (weak_mk ⟨_, rfl⟩ (by repeat' (first | exact rfl | exact we_rfl rfl | refine ⟨_, _, rfl, ?_, ?_⟩)) rfl rfl rfl (by repeat' (first | exact trivial | exact we_rfl rfl | refine ⟨⟨_, rfl, ?_⟩, ?_⟩))) ⟨0, rfl, by omega, rfl⟩ ?_
        rintro j st ⟨e, rfl, he, rfl⟩
        have j1 := joinT_len (f := []) (s := [44, 32]) (by simp) (by simp) ((ptsT false ps).take e)
        have j2 := jl_take (ptsT false ps) e
        refine br (fun hlt => ?_) (fun hlt => ?_)
        · have hlt : e < ps.len := by simpa [dPts_len] using hlt
          obtain ⟨p, ⟨u, us⟩, hx⟩ := Pts.get_lt hlt
          have hpw := Pts.wt_mem (List.mem_of_getElem? hx)
          obtain ⟨g1, g2, g3, g4⟩ := fineP_get f6 hx
          have hpl := partT_len (tag := false) (u := tyT (.mk u us)) g1 g2
          have htl : p.bare = false → (tyT (.mk u us)).length ≤ (Ty.mk u us).wt := fun hb => by have := tyT_len (g4 hb).2; omega
          have hpl2 : (partT false p (tyT (.mk u us))).length ≤ 1099511627776 := by
            cases hb : p.bare
            · have := htl hb; rw [hb] at hpl; simp only [Bool.false_eq_true, if_false] at hpl; omega
            · rw [hb] at hpl; simp only [if_true] at hpl; omega
          refine drawG_i (fun _ => false) mo (by decide +kernel) ?_
          refine callD_p (enters_of Tryz.func69 (by decide +kernel) rfl) (comma17_spec (ba ([114, 101, 99, 111, 114, 100, 123] ++ joinT [] [44, 32] ((ptsT false ps).take e))) e (by rw [sz_ba, List.length_append]; simp only [List.length_cons, List.length_nil]; omega)) (by repeat' (first | exact rfl | exact trivial | exact Or.inr (Or.inl ⟨_, rfl⟩) | exact Or.inr ⟨_, rfl⟩ | exact Or.inl ⟨rfl, rfl⟩ | exact Or.inl rfl | refine Or.inr ⟨_, _, rfl, Nat.zero_le _, rfl, ?_⟩ | refine ⟨_, _, rfl, ?_, ?_⟩ | refine ⟨_, rfl, ?_⟩ | refine Or.inr (Or.inr (Or.inr ⟨_, _, rfl, ?_⟩)) | exact Or.inl rfl | refine Or.inr ?_)) rfl ?_
          refine ⟨dPh p (dTy (.mk u us)), ⟨by omega, dPts_get hx⟩, ?_⟩
          refine callD_p (enters_of Tryz.func70 (by decide +kernel) rfl) (part17_spec p (.mk u us) false (by omega) g1 g2 (fun hb => by have := htl hb; omega) (fun hb => ih (.mk u us) (by omega) (by omega) (g4 hb).2)) (by repeat' (first | exact rfl | exact trivial | exact Or.inr (Or.inl ⟨_, rfl⟩) | exact Or.inr ⟨_, rfl⟩ | exact Or.inl ⟨rfl, rfl⟩ | exact Or.inl rfl | refine Or.inr ⟨_, _, rfl, Nat.zero_le _, rfl, ?_⟩ | refine ⟨_, _, rfl, ?_, ?_⟩ | refine ⟨_, rfl, ?_⟩ | refine Or.inr (Or.inr (Or.inr ⟨_, _, rfl, ?_⟩)) | exact Or.inl rfl | refine Or.inr ?_)) rfl ?_
          have e1 : ba (tx (ba ([114, 101, 99, 111, 114, 100, 123] ++ joinT [] [44, 32] ((ptsT false ps).take e))) ++ (if e = 0 then [] else [44, 32])) ++ ba (partT false p (tyT (.mk u us))) = ba ([114, 101, 99, 111, 114, 100, 123] ++ joinT [] [44, 32] ((ptsT false ps).take (e + 1))) := by
            refine ba_ext ?_
            rw [joinT_take (ptsT_get hx)]
            simp only [tx_app, tx_ba, List.append_assoc]
          refine ⟨by rw [sz_ba, List.length_append, tx_len, sz_ba, sz_ba, List.length_append]; simp only [List.length_cons, List.length_nil]; split <;> simp only [List.length_cons, List.length_nil] <;> omega, ?_⟩
          refine ⟨tyPSt ⟨7, at', lo, hi, most, names, name⟩ ps false [114, 101, 99, 111, 114, 100, 123] (e + 1), (weak_mk ⟨_, rfl⟩ (by repeat' (first | exact rfl | exact we_rfl rfl | refine ⟨_, _, rfl, ?_, ?_⟩)) rfl rfl rfl (by repeat' (first | exact trivial | exact we_rfl rfl | exact we_int (nxt hlt (by omega)) | exact we_str e1 | refine ⟨⟨_, rfl, ?_⟩, ?_⟩))), ps.len - (e + 1), by omega, e + 1, rfl, by omega, rfl⟩
        · have hge2 : e = ps.len := by
            have := hlt; simp [dPts_len] at this; omega
          refine ⟨by rw [sz_ba, List.length_append]; simp only [sz_ba, List.length_cons, List.length_nil]; omega, ?_⟩
          refine (congrArg (fun s => DV.v (.string s)) (ba_ext ?_) : _ = _)
          rw [hge2, List.take_of_length_le (by rw [ptsT_length]; omega)]
          simp [tyT, headT, tx_app, tx_mk]
      · have jp := ptsT_len (tag := true) f6
        refine loop_i (fun j st => ∃ e : Nat, st = tyPSt ⟨8, at', lo, hi, most, names, name⟩ ps true [117, 110, 105, 111, 110, 123] e ∧ e ≤ ps.len ∧ j = ps.len - e) ps.len (tyPSt ⟨8, at', lo, hi, most, names, name⟩ ps true [117, 110, 105, 111, 110, 123] 0) (weak_mk ⟨_, rfl⟩ (by repeat' (first | exact rfl | exact we_rfl rfl | refine ⟨_, _, rfl, ?_, ?_⟩)) rfl rfl rfl (by repeat' (first | exact trivial | exact we_rfl rfl | refine ⟨⟨_, rfl, ?_⟩, ?_⟩))) ⟨0, rfl, by omega, rfl⟩ ?_
        rintro j st ⟨e, rfl, he, rfl⟩
        have j1 := joinT_len (f := []) (s := [44, 32]) (by simp) (by simp) ((ptsT true ps).take e)
        have j2 := jl_take (ptsT true ps) e
        refine br (fun hlt => ?_) (fun hlt => ?_)
        · have hlt : e < ps.len := by simpa [dPts_len] using hlt
          obtain ⟨p, ⟨u, us⟩, hx⟩ := Pts.get_lt hlt
          have hpw := Pts.wt_mem (List.mem_of_getElem? hx)
          obtain ⟨g1, g2, g3, g4⟩ := fineP_get f6 hx
          have hpl := partT_len (tag := true) (u := tyT (.mk u us)) g1 g2
          have htl : p.bare = false → (tyT (.mk u us)).length ≤ (Ty.mk u us).wt := fun hb => by have := tyT_len (g4 hb).2; omega
          have hpl2 : (partT true p (tyT (.mk u us))).length ≤ 1099511627776 := by
            cases hb : p.bare
            · have := htl hb; rw [hb] at hpl; simp only [Bool.false_eq_true, if_false] at hpl; omega
            · rw [hb] at hpl; simp only [if_true] at hpl; omega
          refine drawG_i (fun _ => false) mo (by decide +kernel) ?_
          refine callD_p (enters_of Tryz.func69 (by decide +kernel) rfl) (comma17_spec (ba ([117, 110, 105, 111, 110, 123] ++ joinT [] [44, 32] ((ptsT true ps).take e))) e (by rw [sz_ba, List.length_append]; simp only [List.length_cons, List.length_nil]; omega)) (by repeat' (first | exact rfl | exact trivial | exact Or.inr (Or.inl ⟨_, rfl⟩) | exact Or.inr ⟨_, rfl⟩ | exact Or.inl ⟨rfl, rfl⟩ | exact Or.inl rfl | refine Or.inr ⟨_, _, rfl, Nat.zero_le _, rfl, ?_⟩ | refine ⟨_, _, rfl, ?_, ?_⟩ | refine ⟨_, rfl, ?_⟩ | refine Or.inr (Or.inr (Or.inr ⟨_, _, rfl, ?_⟩)) | exact Or.inl rfl | refine Or.inr ?_)) rfl ?_
          refine ⟨dPh p (dTy (.mk u us)), ⟨by omega, dPts_get hx⟩, ?_⟩
          refine callD_p (enters_of Tryz.func70 (by decide +kernel) rfl) (part17_spec p (.mk u us) true (by omega) g1 g2 (fun hb => by have := htl hb; omega) (fun hb => ih (.mk u us) (by omega) (by omega) (g4 hb).2)) (by repeat' (first | exact rfl | exact trivial | exact Or.inr (Or.inl ⟨_, rfl⟩) | exact Or.inr ⟨_, rfl⟩ | exact Or.inl ⟨rfl, rfl⟩ | exact Or.inl rfl | refine Or.inr ⟨_, _, rfl, Nat.zero_le _, rfl, ?_⟩ | refine ⟨_, _, rfl, ?_, ?_⟩ | refine ⟨_, rfl, ?_⟩ | refine Or.inr (Or.inr (Or.inr ⟨_, _, rfl, ?_⟩)) | exact Or.inl rfl | refine Or.inr ?_)) rfl ?_
          have e1 : ba (tx (ba ([117, 110, 105, 111, 110, 123] ++ joinT [] [44, 32] ((ptsT true ps).take e))) ++ (if e = 0 then [] else [44, 32])) ++ ba (partT true p (tyT (.mk u us))) = ba ([117, 110, 105, 111, 110, 123] ++ joinT [] [44, 32] ((ptsT true ps).take (e + 1))) := by
            refine ba_ext ?_
            rw [joinT_take (ptsT_get hx)]
            simp only [tx_app, tx_ba, List.append_assoc]
          refine ⟨by rw [sz_ba, List.length_append, tx_len, sz_ba, sz_ba, List.length_append]; simp only [List.length_cons, List.length_nil]; split <;> simp only [List.length_cons, List.length_nil] <;> omega, ?_⟩
          refine ⟨tyPSt ⟨8, at', lo, hi, most, names, name⟩ ps true [117, 110, 105, 111, 110, 123] (e + 1), (weak_mk ⟨_, rfl⟩ (by repeat' (first | exact rfl | exact we_rfl rfl | refine ⟨_, _, rfl, ?_, ?_⟩)) rfl rfl rfl (by repeat' (first | exact trivial | exact we_rfl rfl | exact we_int (nxt hlt (by omega)) | exact we_str e1 | refine ⟨⟨_, rfl, ?_⟩, ?_⟩))), ps.len - (e + 1), by omega, e + 1, rfl, by omega, rfl⟩
        · have hge2 : e = ps.len := by
            have := hlt; simp [dPts_len] at this; omega
          refine ⟨by rw [sz_ba, List.length_append]; simp only [sz_ba, List.length_cons, List.length_nil]; omega, ?_⟩
          refine (congrArg (fun s => DV.v (.string s)) (ba_ext ?_) : _ = _)
          rw [hge2, List.take_of_length_le (by rw [ptsT_length]; omega)]
          simp [tyT, headT, tx_app, tx_mk]

/-- **ref17.Type: the type's text.** -/
theorem type17_spec (t : Ty) (hbig : t.wt ≤ 1099511627776) (hf : fineT t) : EvP Tryz.prog 17 [.agg (dTy t)] (.v (.string (ba (tyT t)))) := type17_any _ t (Nat.le_refl _) hbig hf
end Go.Proofs.YtmphiikdhifhjaaGreat
set_option maxRecDepth 100000
namespace Go.Proofs
open Go.Shelf
def Tryz.lays156_ren : Go.Shelf.Ren := ⟨fun | 156 => 133 | 165 => 173 | 166 => 77 | 169 => 82 | 240 => 132 | 241 => 194 | 276 => 172 | 277 => 205 | n => n, fun | 31 => 57 | 9 => 9 | 3 => 3 | 4 => 4 | 0 => 0 | 20 => 20 | 72 => 126 | 76 => 129 | 70 => 123 | 37 => 124 | 75 => 128 | 127 => 198 | 164 => 234 | 5 => 5 | 80 => 135 | n => n, fun | n => n⟩
theorem Tryz.lays156 : Go.Proofs.Lays.n156 Tryz.prog Tryz.lays156_ren := {
  mixed := by kernel_rfl
  f156 := Tryz.func133.trans (congrArg some (by kernel_rfl))
  f165 := Tryz.func173.trans (congrArg some (by kernel_rfl))
  f166 := Tryz.func77.trans (congrArg some (by kernel_rfl))
  f169 := Tryz.func82.trans (congrArg some (by kernel_rfl))
  f240 := Tryz.func132.trans (congrArg some (by kernel_rfl))
  f241 := Tryz.func194.trans (congrArg some (by kernel_rfl))
  f276 := Tryz.func172.trans (congrArg some (by kernel_rfl))
  f277 := Tryz.func205.trans (congrArg some (by kernel_rfl))
  t0 := Tryz.underlying0
  a0 := Tryz.isAgg0
  z0 := Tryz.sizeOf0
  v0 := Tryz.zeroValue0
  t3 := Tryz.underlying3
  a3 := Tryz.isAgg3
  z3 := Tryz.sizeOf3
  v3 := Tryz.zeroValue3
  t4 := Tryz.underlying4
  a4 := Tryz.isAgg4
  z4 := Tryz.sizeOf4
  v4 := Tryz.zeroValue4
  t9 := Tryz.underlying9
  a9 := Tryz.isAgg9
  z9 := Tryz.sizeOf9
  v9 := Tryz.zeroValue9
  t20 := Tryz.underlying20
  a20 := Tryz.isAgg20
  z20 := Tryz.sizeOf20
  v20 := Tryz.zeroValue20
  t31 := Tryz.underlying57
  a31 := Tryz.isAgg57
  z31 := Tryz.sizeOf57
  v31 := Tryz.zeroValue57
  t37 := Tryz.underlying124
  a37 := Tryz.isAgg124
  z37 := Tryz.sizeOf124
  v37 := Tryz.zeroValue124
  t70 := Tryz.underlying123
  a70 := Tryz.isAgg123
  z70 := Tryz.sizeOf123
  v70 := Tryz.zeroValue123
  t72 := Tryz.underlying126
  a72 := Tryz.isAgg126
  z72 := Tryz.sizeOf126
  v72 := Tryz.zeroValue126
  t75 := Tryz.underlying128
  a75 := Tryz.isAgg128
  z75 := Tryz.sizeOf128
  v75 := Tryz.zeroValue128
  t76 := Tryz.underlying129
  a76 := Tryz.isAgg129
  z76 := Tryz.sizeOf129
  v76 := Tryz.zeroValue129
  t127 := Tryz.underlying198
  a127 := Tryz.isAgg198
  z127 := Tryz.sizeOf198
  v127 := Tryz.zeroValue198
  t164 := Tryz.underlying234
  a164 := Tryz.isAgg234
  z164 := Tryz.sizeOf234
  v164 := Tryz.zeroValue234 }
theorem Tryz.Builder_Extra_156 : Builder.Extra Tryz.prog Tryz.lays156_ren := {
  sizeBuilder := by kernel_rfl
  liesBuilder := by kernel_rfl
  t5 := Tryz.underlying5
  a5 := Tryz.isAgg5
  z5 := Tryz.sizeOf5
  v5 := Tryz.zeroValue5
  infoByte := by kernel_rfl
  cellsByte := by kernel_rfl
  sizeByte := by kernel_rfl
  neB5 := by decide }
end Go.Proofs
namespace Go.Proofs.YtmphiikdhifhjaaGreat
open Go Go.RowKit Dv Tryz

/-- A contract of data alone, off one of the library's. -/
theorem evp_below {P : Program} {f : FuncId} {args : List DV} {d : DV}
    (h : ∀ (E : En) (w : World) (vs : List Value), Env E [] w → RvL E args vs → Calls P f vs.toArray w fun e w' => ∃ v, e = .returned v ∧ Rv E d v ∧ Below w.heap.size w w') : EvP P f args d := by
  intro E w vs hE htk hv
  refine (h E w vs hE hv).mono ?_
  rintro e w' ⟨v, rfl, hr, hb⟩
  exact ⟨v, rfl, ⟨hb.os, hb.tape, hb.output, hb.size, fun k hk _ => hb.block k hk⟩, fun hf => (by cases hf), d, [], E, hE.keep hb.block, rfl, rfl, Nw.refl hE, hr, rfl⟩

def dStrs (l : List (List UInt8)) : List (List DV) := l.map fun x => [.v (.string (ba x))]

theorem dStrs_len (l : List (List UInt8)) : (dStrs l).length = l.length := by simp [dStrs]
theorem strs_arr {E : En} : ∀ {ls : List (List UInt8)} {arr : List Value}, RvL E (dStrs ls).flatten arr → arr = ls.map fun x => Value.string (ba x)
  | [], arr, h => by simpa [dStrs, RvL] using h
  | x :: r, arr, h => by
    simp only [dStrs, List.map_cons, List.flatten_cons, List.cons_append, List.nil_append, RvL] at h
    obtain ⟨v, s, rfl, h1, h2⟩ := h
    unfold Rv at h1
    rw [h1.1, strs_arr (ls := r) h2]
    rfl

theorem joinT_lib (s : List UInt8) : ∀ l : List (List UInt8), joinT [] s l = Lib.join l s
  | [] => rfl
  | x :: r => by
    rw [Lib.join_cons]
    simp [joinT, Lib.joinTail, List.flatMap]

theorem join_spec (ls : List (List UInt8)) (sep : ByteArray) (hN : ls.length ≤ 140737488355328) (hlen : (joinT [] (tx sep) ls).length ≤ 140737488355328) :
    EvP Tryz.prog 133 [.sl 1 (dStrs ls) none, .v (.string sep)] (.v (.string (ba (joinT [] (tx sep) ls)))) := by
  refine evp_below fun E w vs hE hv => ?_
  simp only [RvL] at hv
  obtain ⟨v1, s1, rfl, h1, v2, s2, rfl, h2, rfl⟩ := hv
  have h2 := rv_v_eq h2
  subst h2
  unfold Rv at h1
  obtain ⟨b, n, cap, rfl, ⟨rfl, hcap⟩, hr, _⟩ := h1
  rw [dStrs_len] at hcap
  rw [joinT_lib] at hlen ⊢
  have hd : (ls.map ba).map (·.data.toList) = ls := by
    rw [List.map_map]
    conv => rhs; rw [← List.map_id ls]
    rfl
  by_cases hne : ls = []
  · subst hne
    refine (Any.strings_Join_none Tryz.lays156 Tryz.Builder_Extra_156 b cap sep w).mono ?_
    rintro e w' ⟨rfl, rfl⟩
    exact ⟨_, rfl, rv_v rfl, Below.refl _ _⟩
  · have hne' : dStrs ls ≠ [] := by
      intro h0
      exact hne (List.eq_nil_of_length_eq_zero (by rw [← dStrs_len, h0]; rfl))
    obtain ⟨hok, hes⟩ := hr hne'
    obtain ⟨arr, ha1, ha2, ha3⟩ := hes.vals
    have harr := strs_arr ha1.1
    have hb := okA_eq hok
    have hcell : ∀ (j : Nat) x, (ls.map ba)[j]? = some x → w.cell? ⟨ab b, ao b + j, none⟩ = some (.string x) := by
      intro j x hx
      refine hE.sub _ _ (ha3 j _ ?_)
      rw [harr]
      rw [List.getElem?_map] at hx ⊢
      cases hl : ls[j]? with
      | none => rw [hl] at hx; cases hx
      | some y => rw [hl] at hx; simp only [Option.map_some, Option.some.injEq] at hx ⊢; rw [hx]
    have hbk : ab b < w.heap.size := by
      cases hl : ls with
      | nil => exact (hne hl).elim
      | cons y r => exact World.block_lt_of_cell? w _ (hcell 0 (ba y) (by rw [hl]; rfl))
    rw [hb, dStrs_len]
    have hJ := Any.strings_Join Tryz.lays156 Tryz.Builder_Extra_156 (ab b) (ao b) cap (ls.map ba) sep w hcell hbk (by simpa using hN) (by simpa using hcap) (by rw [hd]; exact hlen)
    rw [hd, List.length_map] at hJ
    refine hJ.mono ?_
    rintro e w' ⟨rfl, hbw⟩
    exact ⟨_, rfl, rv_v rfl, hbw⟩
end Go.Proofs.YtmphiikdhifhjaaGreat
