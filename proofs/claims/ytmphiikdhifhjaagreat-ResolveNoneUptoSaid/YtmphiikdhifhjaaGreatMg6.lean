/- Part 6 of the proof: The builder's node; Steps of a region that draws its order, one by one; What resolve.Build says of a schema; lattices in which nothing is wrong; resolve.Build; Reading a plan: Len, Root, Lattice, Node, Find; slices.Clone; of no plan as well; The reference of chapter 17: Great, Same; The program's comparing of schemas; The law's example: a type that leads to itself; The law of no plan: the call returns true. No condition. -/
import Derived.Test.YtmphiikdhifhjaaGreatMg3
import Derived.Test.YtmphiikdhifhjaaGreatMg4
import Derived.Test.YtmphiikdhifhjaaGreatMg5
set_option linter.all false
set_option maxRecDepth 100000
namespace Go.Proofs.YtmphiikdhifhjaaGreat
open Go Go.RowKit Dv Tryz

/-- A node's cells before its edges are set. -/
def nd0 (h : Hd) : List DV := [.v (.int .i64 h.kind), .v (.int .i64 h.at'), .v (.int .i64 h.lo), .v (.int .i64 h.hi), .v (.int .i64 h.most), .sl 1 (dBs (nmTx h.names)) none, .v (.slice none 0 0)]
theorem nd0_set {h : Hd} {base R : List DV} {n : Nat} {x : DV} (hb : base.length = n * 7) : (base ++ (nd0 h ++ R)).set (n * 7 + 6) x = base ++ ([.v (.int .i64 h.kind), .v (.int .i64 h.at'), .v (.int .i64 h.lo), .v (.int .i64 h.hi), .v (.int .i64 h.most), .sl 1 (dBs (nmTx h.names)) none, x] ++ R) := by
  rw [List.set_append_right _ _ (by omega), hb, Nat.add_sub_cancel_left]
  rfl
theorem dEds_snoc (l : List Ed) (e : Ed) : dEds l ++ [dEd e] = dEds (l ++ [e]) := by simp [dEds]
theorem dEds_len (l : List Ed) : (dEds l).length = l.length := by simp [dEds]
theorem edsP_len (lev : List Wd → Int) (s : Sch) : ∀ (ps : Pts) (k : Nat), (edsP lev s ps k).length = ps.len
  | .nil, _ => rfl
  | .cons p u r, k => by simp [edsP, Pts.len, edsP_len lev s r]

abbrev ndASt (s : Sch) (ord : List Nat) (lc : List DV) (m : Int) (n : Nat) (base : List DV) (h : Hd) (ps : Pts) (q e : Nat) : St :=
  ⟨[(0, ⟨[], .loc 0 0⟩), (3, ⟨[], .loc 2 0⟩), (7, ⟨[], .v (.int .i64 n)⟩), (8, ⟨[], .loc 3 0⟩), (61, ⟨[], .sl 2 (dWds h.names) none⟩), (62, ⟨[], .v (.int .i64 (dWds h.names).length)⟩), (63, ⟨[], .v (.int .i64 e)⟩)],
   [bC s (.pt lc 0) (.loc 1 0) m, pCn s ord lc n, dTy (.mk h ps), [.v (.int .i64 h.kind), .v (.int .i64 h.at'), .v (.int .i64 h.lo), .v (.int .i64 h.hi), .v (.int .i64 h.most), .sl 1 (dBs (nmTx (h.names.take e))) (some 1), .v (.slice none 0 0)]],
   [rowN n base, ⟨q, 9, 1, none⟩]⟩
abbrev ndBSt (s : Sch) (ord : List Nat) (lc : List DV) (m : Int) (n : Nat) (h : Hd) (ps : Pts) (n' : Nat) (base' : List DV) (Es : List Ed) (q1 q2 e : Nat) : St :=
  ⟨[(0, ⟨[], .loc 0 0⟩), (3, ⟨[], .loc 2 0⟩), (7, ⟨[], .v (.int .i64 n)⟩), (11, ⟨[], .sl 10 (dEds Es) (some 2)⟩), (92, ⟨[], .sl 18 (dPts ps) none⟩), (93, ⟨[], .v (.int .i64 (dPts ps).length)⟩), (94, ⟨[], .v (.int .i64 e)⟩)],
   [bC s (.pt lc 0) (.loc 1 0) m, pCn s ord lc n', dTy (.mk h ps)],
   [rowN n' base', ⟨q1, 9, 1, none⟩, ⟨q2, 75, 10, none⟩]⟩

theorem knT_ok {X : Lx} {L : List ByteArray} {h : Hd} {ps : Pts} (hk : (knT X L (.mk h ps)).1 = 0) : (h.kind = 9 → ixOf L h.name.s ≠ none) ∧ (knP X L ps).1 = 0 := by
  rw [knT] at hk
  split at hk
  · cases hk
  · rename_i h1
    exact ⟨fun h9 hn => h1 ⟨h9, hn⟩, hk⟩
theorem knP_ok {X : Lx} {L : List ByteArray} {p : Ph} {u : Ty} {r : Pts} (hk : (knP X L (.cons p u r)).1 = 0) : (p.bare = false → (knT X L u).1 = 0) ∧ (knP X L r).1 = 0 := by
  rw [knP] at hk
  split at hk
  · rename_i h1; exact (h1 hk).elim
  · split at hk
    · rename_i h1; exact (h1 hk).elim
    · split at hk
      · rename_i h1
        exact ⟨(fun h2 => by rw [h1] at h2; cases h2), hk⟩
      · split at hk
        · rename_i h1; exact (h1 hk).elim
        · rename_i h1
          exact ⟨fun _ => by simpa using h1, hk⟩

theorem node_spec {X : Lx} (hX : X.OK) (s : Sch) (ord : List Nat) (m : Int) (hT : TblOK (tL s) ord) (hol : ord.length ≤ 1099511627776) : ∀ (k : Nat) (t : Ty), t.wt ≤ k → t.wt ≤ 1099511627776 → (knT X (tL s) t).1 = 0 →
    NodeOK X.lev s ord (dLs X.names (dTbl X.names X.ord) X.rows X.js) m t
  | 0, t, hn, _, _ => by have := t.wt_pos; omega
  | k + 1, .mk h ps, hn, hbig, hkn => by
    have ih := node_spec hX s ord m hT hol k
    intro n base hnb hbl
    obtain ⟨hk9, hkp⟩ := knT_ok hkn
    have hedge := fun (p : Ph) (u : Ty) => edge_spec hX s ord m p u
    generalize dLs X.names (dTbl X.names X.ord) X.rows X.js = lc at ih hedge ⊢
    simp only [Ty.wt, Hd.wt] at hn hbig
    have hpl := ps.wt_len
    have hnl := wdsWt_len h.names
    have hf := tfind_spec (tL s) ord h.name.s hT hol
    have htl := tL_len s
    have hnmL : (namedL s).length = s.types.length := by simp [namedL]
    have hidx : idxF s (.mk h ps) n = if h.kind = 9 then nmF s h.name.s else (n : Int) := rfl
    have hnds : ndsT X.lev s (.mk h ps) n = if h.kind = 9 then [] else ⟨h.kind, h.at', h.lo, h.hi, h.most, nmTx h.names, edsP X.lev s ps (n + 1)⟩ :: ndsP X.lev s ps (n + 1) := by rw [ndsT]
    have hnn : (Ty.mk h ps).nn = if h.kind = 9 then 0 else 1 + ps.nn := by rw [Ty.nn]
    generalize hS : s = S at *
    subst hS
    obtain ⟨levels, order, types, ⟨rh, rp⟩⟩ := s
    refine ev_go (P := Tryz.prog) tt tt_ok 5000 117 [.tmp 4] Tryz.func95 rfl Tryz.ntmps95 rfl (Nat.le_of_ble_eq_true rfl) (fun E9 w9 hn9 hm9 => ?_)
    refine br (fun h9 => ?_) (fun h9 => ?_)
    · have h9 : h.kind = 9 := by simpa using h9
      obtain ⟨i, hi⟩ := Option.ne_none_iff_exists'.1 (hk9 h9)
      have hil := (ixOf_some hi).1
      rw [hi] at hf
      rw [if_pos h9] at hidx hnds
      have hget : (namedL ⟨levels, order, types, .mk rh rp⟩)[i]? = some (namedN ⟨levels, order, types, .mk rh rp⟩ i) := by
        unfold namedL
        rw [List.getElem?_map, List.getElem?_range (by omega)]
        rfl
      refine drawG_i (fun _ => false) mo (by decide +kernel) ?_
      refine callD_p (enters_of Tryz.func101 (by decide +kernel) rfl) (hf) (by repeat' (first | exact rfl | exact trivial | exact Or.inr (Or.inl ⟨_, rfl⟩) | exact Or.inr ⟨_, rfl⟩ | exact Or.inl ⟨rfl, rfl⟩ | exact Or.inl rfl | refine Or.inr ⟨_, _, rfl, Nat.zero_le _, rfl, ?_⟩ | refine ⟨_, _, rfl, ?_, ?_⟩ | refine ⟨_, rfl, ?_⟩ | refine Or.inr (Or.inr (Or.inr ⟨_, _, rfl, ?_⟩)) | exact Or.inl rfl | refine Or.inr ?_)) rfl ?_
      refine ⟨_, ⟨by omega, dInts_get hget⟩, ?_⟩
      refine ⟨.v (.int .i64 (namedN ⟨levels, order, types, .mk rh rp⟩ i : Nat)), [bC ⟨levels, order, types, .mk rh rp⟩ (.pt lc 0) (.loc 1 0) m, pCn ⟨levels, order, types, .mk rh rp⟩ ord lc n], (by repeat' (first | exact rfl | exact trivial | exact Or.inr (Or.inl ⟨_, rfl⟩) | exact Or.inr ⟨_, rfl⟩ | exact Or.inl ⟨rfl, rfl⟩ | exact Or.inl rfl | refine Or.inr ⟨_, _, rfl, Nat.zero_le _, rfl, ?_⟩ | refine ⟨_, _, rfl, ?_, ?_⟩ | refine ⟨_, rfl, ?_⟩ | refine Or.inr (Or.inr (Or.inr ⟨_, _, rfl, ?_⟩)) | exact Or.inl rfl | refine Or.inr ?_)), (by repeat' (first | exact rfl | exact trivial | exact Or.inr (Or.inl ⟨_, rfl⟩) | exact Or.inr ⟨_, rfl⟩ | exact Or.inl ⟨rfl, rfl⟩ | exact Or.inl rfl | refine Or.inr ⟨_, _, rfl, Nat.zero_le _, rfl, ?_⟩ | refine ⟨_, _, rfl, ?_, ?_⟩ | refine ⟨_, rfl, ?_⟩ | exact ⟨Nat.le_of_ble_eq_true rfl, rfl⟩ | refine Or.inr (Or.inr (Or.inr ⟨_, _, rfl, ?_⟩)) | exact Or.inl rfl | refine Or.inr ?_)), ?_, ?_, ?_⟩
      · rw [hidx, nmF, hi]
        rfl
      · rw [hnds]
        rfl
      · rw [hnds]
        simp [dNds]
    have h9 : ¬ h.kind = 9 := by simpa using h9
    rw [if_neg h9] at hidx hnds hnn
    have hrl : (List.replicate n ([] : List DV)).length = n := List.length_replicate
    refine loop_i (fun j st => ∃ e : Nat, st = ndASt ⟨levels, order, types, .mk rh rp⟩ ord lc m n base h ps e e ∧ e ≤ h.names.length ∧ j = h.names.length - e) h.names.length (ndASt ⟨levels, order, types, .mk rh rp⟩ ord lc m n base h ps 0 0) (weak_bt 4 ⟨0, 9, 1, none⟩ rfl rfl rfl (by repeat' (first | exact rfl | exact we_rfl rfl | exact we_int (congrArg Nat.cast hrl) | exact we_tok (Nat.le_refl _) rfl | exact we_tok (Nat.le_refl _) rfl | refine ⟨_, _, rfl, ?_, ?_⟩)) rfl rfl (by repeat' (first | exact trivial | exact we_rfl rfl | exact we_int (congrArg Nat.cast hrl) | exact we_tok (Nat.le_refl _) rfl | refine ⟨⟨_, rfl, ?_⟩, ?_⟩))) ⟨0, rfl, by omega, by omega⟩ ?_
    rintro j st ⟨e, rfl, he, rfl⟩
    refine br (fun hL => ?_) (fun hL => ?_)
    · have hlt : e < h.names.length := by simpa [dWds_len] using hL
      obtain ⟨w, hw⟩ : ∃ w, h.names[e]? = some w := ⟨_, List.getElem?_eq_getElem hlt⟩
      have hsn := nmTx_snoc hw
      refine ⟨dWd w, ⟨by omega, dWds_get hw⟩, ?_⟩
      refine ⟨by simp [dBs_len, nmTx]; omega, ⟨by simp [dBs_len, nmTx, maxLen]; omega, by simp [dBs_len, nmTx]; omega⟩, ?_⟩
      exact ⟨ndASt ⟨levels, order, types, .mk rh rp⟩ ord lc m n base h ps (e + 1) (e + 1), (weak_b 4 rfl (by repeat' (first | exact rfl | exact we_rfl rfl | exact we_int (nxt hlt (by omega)) | exact we_sl hsn rfl | refine ⟨_, _, rfl, ?_, ?_⟩)) rfl rfl rfl (by repeat' (first | exact trivial | exact we_rfl rfl | exact we_int (nxt hlt (by omega)) | exact we_sl hsn rfl | refine ⟨⟨_, rfl, ?_⟩, ?_⟩))), h.names.length - (e + 1), by omega, e + 1, rfl, by omega, rfl⟩
    have hge : e = h.names.length := by have := hL; simp [dWds_len] at this; omega
    subst hge
    rw [List.take_length]
    refine drawG_s mo (by decide +kernel) ?_
    refine ⟨⟨⟨hrl, by simp⟩, by simp [maxLen]; omega, by simp; omega⟩, ?_⟩
    refine loop_i (fun j st => ∃ (e n' : Nat) (base' : List DV) (Es : List Ed) (K : List Nd), st = ndBSt ⟨levels, order, types, .mk rh rp⟩ ord lc m n h ps n' base' Es h.names.length e e ∧ e ≤ ps.len ∧ n' = n + 1 + K.length ∧ base' = base ++ (nd0 h ++ (dNds K).flatten) ∧ Es.length = e ∧
        K ++ ndsP X.lev ⟨levels, order, types, .mk rh rp⟩ (ps.drop e) (n + 1 + K.length) = ndsP X.lev ⟨levels, order, types, .mk rh rp⟩ ps (n + 1) ∧ Es ++ edsP X.lev ⟨levels, order, types, .mk rh rp⟩ (ps.drop e) (n + 1 + K.length) = edsP X.lev ⟨levels, order, types, .mk rh rp⟩ ps (n + 1) ∧ K.length + (ps.drop e).nn = ps.nn ∧ (knP X (tL ⟨levels, order, types, .mk rh rp⟩) (ps.drop e)).1 = 0 ∧ j = ps.len - e) ps.len
      (ndBSt ⟨levels, order, types, .mk rh rp⟩ ord lc m n h ps (n + 1) (base ++ (nd0 h ++ [])) [] h.names.length 0 0) (weak_bt 3 ⟨0, 75, 10, none⟩ rfl rfl rfl (by repeat' (first | exact rfl | exact we_rfl rfl | exact we_tok (Nat.le_refl _) rfl | exact we_tok (Nat.le_refl _) rfl | refine ⟨_, _, rfl, ?_, ?_⟩)) rfl rfl (by repeat' (first | exact trivial | exact we_rfl rfl | exact we_tok (Nat.le_refl _) rfl | refine ⟨⟨_, rfl, ?_⟩, ?_⟩))) ⟨0, n + 1, _, [], [], rfl, by omega, rfl, rfl, rfl, rfl, rfl, by simp [Pts.drop], hkp, by omega⟩ ?_
    rintro j st ⟨e, n', base', Es, K, rfl, he, hn', hb', hEl, hK, hEs, hKn, hkd, rfl⟩
    have hbl' : base'.length = n' * 7 := by
      have : ∀ l : List Nd, (dNds l).flatten.length = l.length * 7 := by
        intro l
        induction l with
        | nil => rfl
        | cons a r ih => simp only [dNds, List.map_cons, List.flatten_cons, List.length_append, List.length_cons] at ih ⊢; rw [ih]; simp only [dNd, List.length_cons, List.length_nil]; omega
      rw [hb', List.length_append, List.length_append, this, hbl, hn']
      simp only [nd0, List.length_cons, List.length_nil]
      omega
    refine br (fun hL => ?_) (fun hL => ?_)
    · have hlt : e < ps.len := by simpa [dPts_len] using hL
      obtain ⟨p, u, hx⟩ := Pts.get_lt hlt
      have hwt := Pts.wt_mem (List.mem_of_getElem? hx)
      rw [Pts.drop_cons hx] at hK hEs hKn hkd
      obtain ⟨hk1, hk2⟩ := knP_ok hkd
      simp only [ndsP] at hK
      simp only [edsP] at hEs
      simp only [Pts.nn] at hKn
      rw [← hn'] at hK hEs
      have hun := u.nn_cnt
      have huc := u.cnt_wt
      have hpe := hedge p u (by omega) (fun hB => ih u (by omega) (by omega) (hk1 hB)) n' base' (fun hB => by rw [hB] at hKn; simp only [Bool.false_eq_true, if_false] at hKn; omega) hbl'
      have hlen1 := ndsT_len X.lev ⟨levels, order, types, .mk rh rp⟩ u n'
      obtain ⟨uh, us⟩ := u
      refine ⟨_, ⟨by omega, dPts_get hx⟩, ?_⟩
      refine call_os 2 1 (enters_of Tryz.func152 (by decide +kernel) rfl) rfl rfl rfl (by repeat' (first | exact rfl | exact trivial | exact Or.inr (Or.inl ⟨_, rfl⟩) | exact Or.inr ⟨_, rfl⟩ | exact Or.inl ⟨rfl, rfl⟩ | exact Or.inl rfl | refine Or.inr ⟨_, _, rfl, Nat.zero_le _, rfl, ?_⟩ | refine ⟨_, _, rfl, ?_, ?_⟩ | refine ⟨_, rfl, ?_⟩ | exact ⟨Nat.le_of_ble_eq_true rfl, rfl⟩ | refine Or.inr (Or.inr (Or.inr ⟨_, _, rfl, ?_⟩)) | exact Or.inl rfl | refine Or.inr ?_)) (by repeat' (first | exact rfl | exact trivial | exact Or.inr (Or.inl ⟨_, rfl⟩) | exact Or.inr ⟨_, rfl⟩ | exact Or.inl ⟨rfl, rfl⟩ | exact Or.inl rfl | refine Or.inr ⟨_, _, rfl, Nat.zero_le _, rfl, ?_⟩ | refine ⟨_, _, rfl, ?_, ?_⟩ | refine ⟨_, rfl, ?_⟩ | exact ⟨Nat.le_of_ble_eq_true rfl, rfl⟩ | refine Or.inr (Or.inr (Or.inr ⟨_, _, rfl, ?_⟩)) | exact Or.inl rfl | refine Or.inr ?_)) hpe (fun r os' tk' hΦ h1 h2 => ?_)
      obtain ⟨rfl, rfl, rfl⟩ := hΦ
      refine ⟨by rw [dEds_len, hEl], ⟨by simp [dEds_len, hEl, maxLen]; omega, by simp [dEds_len, hEl]; omega⟩, ?_⟩
      have hnl2 : (if p.bare then [] else ndsT X.lev ⟨levels, order, types, .mk rh rp⟩ (.mk uh us) n').length = if p.bare then 0 else (Ty.mk uh us).nn := by
        split
        · rfl
        · exact hlen1
      have hidx2 : n + 1 + (K.length + (if p.bare then 0 else (Ty.mk uh us).nn)) = n' + if p.bare then 0 else (Ty.mk uh us).nn := by rw [hn']; omega
      refine ⟨ndBSt ⟨levels, order, types, .mk rh rp⟩ ord lc m n h ps (n' + (if p.bare then [] else ndsT X.lev ⟨levels, order, types, .mk rh rp⟩ (.mk uh us) n').length) (base' ++ (dNds (if p.bare then [] else ndsT X.lev ⟨levels, order, types, .mk rh rp⟩ (.mk uh us) n')).flatten) (Es ++ [mkEd X.lev p (toF ⟨levels, order, types, .mk rh rp⟩ p (.mk uh us) n')]) h.names.length (e + 1) (e + 1), (weak_b 3 rfl (by repeat' (first | exact rfl | exact we_rfl rfl | exact we_int (nxt hlt (by omega)) | exact we_sl (dEds_snoc _ _) rfl | refine ⟨_, _, rfl, ?_, ?_⟩)) rfl rfl rfl (by repeat' (first | exact trivial | exact we_rfl rfl | exact we_int (nxt hlt (by omega)) | exact we_sl (dEds_snoc _ _) rfl | refine ⟨⟨_, rfl, ?_⟩, ?_⟩))),
        ps.len - (e + 1), by omega, e + 1, _, _, _, K ++ (if p.bare then [] else ndsT X.lev ⟨levels, order, types, .mk rh rp⟩ (.mk uh us) n'), rfl, by omega, ?_, ?_, ?_, ?_, ?_, ?_, hk2, rfl⟩
      · rw [List.length_append, hn']; omega
      · rw [hb']; simp [dNds]
      · simp [hEl]
      · rw [List.length_append, hnl2, List.append_assoc, hidx2]
        exact hK
      · rw [List.length_append, hnl2, List.append_assoc, hidx2]
        exact hEs
      · rw [List.length_append, hnl2]; omega
    · have hge : e = ps.len := by have := hL; simp [dPts_len] at this; omega
      subst hge
      rw [Pts.drop_len] at hK hEs
      simp only [ndsP, List.append_nil] at hK
      simp only [edsP, List.append_nil] at hEs
      have hKl : K.length = ps.nn := by rw [hK, ndsP_len]
      have hrl2 : (List.replicate n' ([] : List DV)).length = n' := List.length_replicate
      refine own_store (kt := 0) ⟨rfl, rfl⟩ ⟨rfl, rfl, rfl⟩ ⟨rfl, rfl, rfl⟩ rfl rfl rfl rfl rfl rfl rfl rfl rfl rfl rfl hrl2 ⟨by omega, by omega⟩ (by decide) ?_
      have hnl3 : n + (ndsT X.lev ⟨levels, order, types, .mk rh rp⟩ (.mk h ps) n).length = n' := by rw [hnds, List.length_cons, ← hK, hn']; omega
      have hrow : base'.set ((n : Int).toNat * 7 + 6) (.sl 10 (dEds Es) none) = base ++ (dNds (ndsT X.lev ⟨levels, order, types, .mk rh rp⟩ (.mk h ps) n)).flatten := by
        rw [hb', show (n : Int).toNat = n by omega, nd0_set hbl, hnds, hEs, hK]
        rfl
      refine ⟨.v (.int .i64 n), [bC ⟨levels, order, types, .mk rh rp⟩ (.pt lc 0) (.loc 1 0) m, pCn ⟨levels, order, types, .mk rh rp⟩ ord lc n'], (by repeat' (first | exact rfl | exact trivial | exact Or.inr (Or.inl ⟨_, rfl⟩) | exact Or.inr ⟨_, rfl⟩ | exact Or.inl ⟨rfl, rfl⟩ | exact Or.inl rfl | refine Or.inr ⟨_, _, rfl, Nat.zero_le _, rfl, ?_⟩ | refine ⟨_, _, rfl, ?_, ?_⟩ | refine ⟨_, rfl, ?_⟩ | refine Or.inr (Or.inr (Or.inr ⟨_, _, rfl, ?_⟩)) | exact Or.inl rfl | refine Or.inr ?_)), (by repeat' (first | exact rfl | exact trivial | exact Or.inr (Or.inl ⟨_, rfl⟩) | exact Or.inr ⟨_, rfl⟩ | exact Or.inl ⟨rfl, rfl⟩ | exact Or.inl rfl | refine Or.inr ⟨_, _, rfl, Nat.zero_le _, rfl, ?_⟩ | refine ⟨_, _, rfl, ?_, ?_⟩ | refine ⟨_, rfl, ?_⟩ | exact ⟨Nat.le_of_ble_eq_true rfl, rfl⟩ | refine Or.inr (Or.inr (Or.inr ⟨_, _, rfl, ?_⟩)) | exact Or.inl rfl | refine Or.inr ?_)), ?_, ?_, ?_⟩
      · rw [hidx]
      · rw [hnl3]
      · rw [hnl3, ← hrow]
        rfl
end Go.Proofs.YtmphiikdhifhjaaGreat
namespace Go.Proofs.YtmphiikdhifhjaaGreat
namespace Dv
open Go Go.RowKit

section
variable {X : Ctx} {st : St} {k : List It} {E : En} {a : Act} {w : World} {ops : Array Oper} {W : Nat → Bool} {C : World → Prop} {Q : Act → World → Prop} {i : Nat} {r : List Nat} {o : Oper}

theorem wanted_none (hg : o.guard = none) : Region.wanted o (yielded ops a.tmps) = true := by
  unfold Region.wanted
  rw [hg]

/-- What is read of objects that stay. -/
theorem rl_mask {bx : List (List DV)} {wr : World} (h : Rel X E st a w) (hE : EnvM E bx wr) (hC : ∀ w', C w' → CC E bx wr w') : Rl E bx C st.sl a where
  tm := h.tm
  bxs := fun i cs hi => by
    by_cases hne : cs = []
    · subst hne
      have hlt : i < E.β.length := by rw [hE.len]; exact (List.getElem?_eq_some_iff.1 hi).1
      exact ⟨_, [], List.getElem?_eq_getElem hlt, ⟨rvL_nil _, by simp⟩, fun w' _ j u hj => by simp at hj⟩
    · obtain ⟨b, ty, arr, hb, hw, hc⟩ := hE.bxs i cs hi hne
      exact ⟨b, arr, hb, hc, fun w' h' j u hj => by rw [cell_blk (((hC w' h').o i b cs hb hi hne).trans hw)]; simpa using hj⟩
  cc := fun x v hx w' h' => (hC w' h').c x v hx
theorem em_mask {bx : List (List DV)} (h : Env E bx w) (m : List Nat) : EnvM E (maskL m 0 bx) w := ⟨by rw [maskL_len]; exact h.len, fun i cs hi hne => by
  rcases maskL_get m _ _ _ _ hi with h1 | h1
  · exact (hne h1).elim
  · exact h.bxs i cs h1⟩

/-- An operation that neither reads nor writes memory. -/
theorem runT_np (hR : Rel X E st a w) (ho : ops[i]? = some o) (hE : isE o.op = false) (hL : isL o.op = false) (hg : o.guard = none) {s : DV} (hs : pureT X.P X.T ⟨st.sl, [], []⟩ [] o.op = some s) (hd : okD X.nt st.sl o.dst = true)
    (hk : ∀ a', Rel X E (st.put o.dst ⟨[], s⟩) a' w → runT X.P ops W C Q r a' w) : runT X.P ops W C Q (i :: r) a w := by
  have hrl : Rl E [] (fun _ => False) st.sl a := ⟨hR.tm, fun i cs hi => by simp at hi, fun _ _ _ _ h => h.elim⟩
  obtain ⟨v, hv, hrun⟩ := pure_sound (st := ⟨st.sl, [], []⟩) X.hT hrl (holds_nil _) hs
  simp only [runT, ho, hE, Bool.false_eq_true, if_false]
  exact ⟨v, .inl ⟨wanted_none hg, fun w' _ => hrun w' fun h => by rw [hL] at h; cases h⟩, fun h => (by rw [hL] at h; cases h), hk _ (put_rel hR hd s v hv)⟩

/-- One that reads what stays. -/
theorem runT_lo (hR : Rel X E st a w) (ho : ops[i]? = some o) {bx : List (List DV)} (hrl : Rl E bx C st.sl a) (hCw : C w) (hE : isE o.op = false) (hg : o.guard = none) {s : DV} (hs : pureT X.P X.T ⟨st.sl, bx, []⟩ [] o.op = some s) (hd : okD X.nt st.sl o.dst = true)
    (hk : ∀ a', Rel X E (st.put o.dst ⟨[], s⟩) a' w → runT X.P ops W C Q r a' w) : runT X.P ops W C Q (i :: r) a w := by
  obtain ⟨v, hv, hrun⟩ := pure_sound (st := ⟨st.sl, bx, []⟩) X.hT hrl (holds_nil _) hs
  simp only [runT, ho, hE, Bool.false_eq_true, if_false]
  exact ⟨v, .inl ⟨wanted_none hg, fun w' h => hrun w' h⟩, fun _ => hCw, hk _ (put_rel hR hd s v hv)⟩

/-- One that reads a cell that holds a pointer to an object, and stays. -/
theorem runT_ld (hR : Rel X E st a w) (ho : ops[i]? = some o) {t x d : Nat} {b p j : Nat} {n : Nat} {kd : TK} {z : List Value} (hb : E.β[j]? = some b) (hop : o.op = .load t (.tmp x)) (hdst : o.dst = some d) {i2 off2 b2 : Nat} (hb2 : E.β[i2]? = some b2) (hx : rv st [] (.tmp x) = some (.loc i2 p)) (hT : X.T.find t = some ⟨n, false, kd, z⟩)
    (hC : ∀ w', C w' → w'.cell? ⟨b2, p, none⟩ = some (.pointer (some ⟨b, off2, none⟩))) (hCw : C w) (hg : o.guard = none) (hd : okD X.nt st.sl (some d) = true)
    (hk : ∀ a', Rel X E ⟨(d, ⟨[], .loc j off2⟩) :: st.sl, st.bx, st.tk⟩ a' w → runT X.P ops W C Q r a' w) : runT X.P ops W C Q (i :: r) a w := by
  have hE : isE o.op = false := by rw [hop]; rfl
  simp only [runT, ho, hE, Bool.false_eq_true, if_false]
  have hv : Rv E (.loc j off2) (.pointer (some ⟨b, off2, none⟩)) := by unfold Rv; exact ⟨b, hb, rfl⟩
  refine ⟨.pointer (some ⟨b, off2, none⟩), .inl ⟨wanted_none hg, fun w' h => ?_⟩, fun _ => hCw, ?_⟩
  · have hC' := hC w' (h (by rw [hop]; rfl))
    have e1 := sl_val hR.rl hx
    unfold Rv at e1
    obtain ⟨b3, hb3, e1⟩ := e1
    rw [hb2] at hb3
    simp only [Option.some.injEq] at hb3
    subst hb3
    have hag := (te_parts X.hT hT).2.1
    have hl : (loadVar t ⟨b2, p, none⟩).run X.P w' = .ok (.pointer (some ⟨b, off2, none⟩)) w' := by
      simp [loadVar, run_isAgg' hag, hC']
    simp only [execOp, hop, e1, Sem.run_bind, Instr.loadAt, Instr.sureAddr, Sem.run_pure, Result.andThen_ok, hl]
  · rw [hdst]
    exact hk _ (put_rel hR hd (.loc j off2) _ hv)

/-- A call. -/
theorem runT_call (hR : Rel X E st a w) (ho : ops[i]? = some o) {dst : Option Nat} {f : Operand} {args : Array Operand} {tys : Array TypeId} (hop : o.op = .call ⟨.value f, args, tys⟩) (hdst : o.dst = dst) (hg : o.guard = none) {g : FuncId} {ds : List DV} (hf : rv st [] f = some (.fn g [] [])) (hl : argsV st [] args.toList = some ds) (hen : Enters X.P g)
    {K : Value → World → Prop} (hc : ∀ vs, RvL E ds vs → Calls X.P g vs.toArray w fun e w' => ∃ v, e = .returned v ∧ K v w') (hk : ∀ v w', K v w' → (W i = false → C w → C w') ∧ runT X.P ops W C Q r (a.put dst v) w') : runT X.P ops W C Q (i :: r) a w := by
  have hE : isE o.op = true := by rw [hop]; rfl
  have hwn := wanted_none (ops := ops) (a := a) hg
  have hrl := hR.rl
  have e1 := sl_val hrl hf
  unfold Rv at e1
  obtain ⟨l1, r1, e1, hl1, hr1⟩ := e1
  simp only [RvL] at hl1 hr1
  subst hl1 hr1
  have hargs := args_sound hrl (holds_nil _) _ _ hl
  simp only [runT, ho, hE, if_true, stepX, hwn]
  subst hdst
  obtain ⟨dst, op, ty, pos, after, gu⟩ := o
  simp only at hop
  subst hop
  have hr : (execOp a.eval ⟨dst, .call ⟨.value f, args, tys⟩, ty, pos, after, gu⟩).run X.P w = .ok (.enter g (args.toList.map a.eval).toArray) w := by
    have e3 : (([] : List Value).toArray ++ args.map a.eval ++ ([] : List Value).toArray) = (args.toList.map a.eval).toArray := by apply Array.ext'; simp
    simp only [execOp, resolve, e1, Deferred.ofValue, Sem.run_bind, Sem.run_pure, Result.andThen_ok, invoke, e3]
    exact hen _ _
  unfold wq
  rw [hr]
  refine (hc _ hargs).mono ?_
  rintro e w' ⟨v, rfl, hK⟩
  exact ⟨v, rfl, hk v w' hK⟩

/-- A call that is handed the first objects and rows. -/
theorem runT_os (hR : Rel X E st a w) (ho : ops[i]? = some o) {dst : Option Nat} {f : Operand} {args : Array Operand} {tys : Array TypeId} (hop : o.op = .call ⟨.value f, args, tys⟩) (hdst : o.dst = dst) (hg : o.guard = none) {g : FuncId} {ds ds' : List DV} (hf : rv st [] f = some (.fn g [] [])) (hl : argsV st [] args.toList = some ds) (hen : Enters X.P g)
    {os : List (List DV)} (n1 m1 : Nat) (hn1 : Nat.ble n1 st.bx.length = true) (hm1 : Nat.ble m1 st.tk.length = true) (hos : CcLL [] n1 n1 m1 os (st.bx.take n1)) (ha : CcL [] n1 n1 m1 ds' ds)
    {Φ : DV → List (List DV) → List TkE → Prop} (hc : Ev X.P g ds' os (st.tk.take m1) Φ) (hst : X.still = false) (hX : X.bt = [])
    (hk : ∀ v r' os' tk' E' w', Φ r' os' tk' → os'.length = n1 → tk'.length = m1 → Rel X E' ⟨st.sl, os' ++ st.bx.drop n1, tk' ++ st.tk.drop m1⟩ a w' → Rv E' r' v → Ext E E' → E'.β = E.β → (∀ (i : Nat) b, n1 ≤ i → E.β[i]? = some b → w'.heap[b]? = w.heap[b]?) →
      (W i = false → C w → C w') ∧ runT X.P ops W C Q r (a.put dst v) w') : runT X.P ops W C Q (i :: r) a w := by
  refine runT_call hR ho hop hdst hg hf hl hen (K := fun v w' => ∃ r' os' tk' E', Φ r' os' tk' ∧ os'.length = n1 ∧ tk'.length = m1 ∧ Rel X E' ⟨st.sl, os' ++ st.bx.drop n1, tk' ++ st.tk.drop m1⟩ a w' ∧ Rv E' r' v ∧ Ext E E' ∧ E'.β = E.β ∧ ∀ (i : Nat) b, n1 ≤ i → E.β[i]? = some b → w'.heap[b]? = w.heap[b]?)
    (fun vs hv => ?_) ?_
  · refine (calls_os n1 m1 hn1 hm1 hos ha hc hst hX hR hv).mono ?_
    rintro e w' ⟨v, r', os', tk', E', rfl, h⟩
    exact ⟨v, rfl, r', os', tk', E', h⟩
  · rintro v w' ⟨r', os', tk', E', h1, h2, h3, h4, h5, h6, h7, h8⟩
    exact hk v r' os' tk' E' w' h1 h2 h3 h4 h5 h6 h7 h8

theorem own_obj (h : Rel X E st a w) (j o k : Nat) {n ty e : Nat} {ocs : List DV} {es ns : List (List DV)} (hq : st.tk[k]? = some ⟨n, ty, e, some ns.flatten⟩) (hns : ∀ x ∈ ns, x.length = e) (hnl : ns.length = n) (hj : st.bx[j]? = some ocs) (ho : ocs[o]? = some (.sl 0 es (some k))) (hes : es.length = n) :
    ∃ E', Rel X E' ⟨st.sl, st.bx.set j (ocs.set o (.sl e ns none)), st.tk.set k ⟨n, ty, e, none⟩⟩ a w := wk_own hq hns hnl hj ho hes E a w h

/-- The last operation, that writes. -/
theorem runT_last (hR : Rel X E st a w) (ho : ops[i]? = some o) (hE : isE o.op = true) (hg : o.guard = none) (hW : W i = true) (hd : okD X.nt st.sl o.dst = true) {p : Prop} (hp : effC X st o (go X 4000 k) = some p) (h : p) : runT X.P ops W C (fun a w => kq X k .normal a w) [i] a w := by
  have hwn := wanted_none (ops := ops) (a := a) hg
  simp only [runT, ho, hE, if_true, stepX, hwn]
  refine wq_mono ?_ (effC_sound hd hR hp h)
  rintro a' w' ⟨st', E', hgo, hr, _⟩
  exact ⟨(fun h => by rw [hW] at h; cases h), go_sound 4000 _ _ hgo _ _ _ hr⟩

mutual
theorem renD_renD {i j : Nat} : ∀ d : DV, renD (swp i j) (renD (swp i j) d) = d
  | .v x => rfl
  | .ud => rfl
  | .agg l => by simp only [renD, renL_renL]
  | .tup l => by simp only [renD, renL_renL]
  | .sl e es tk => rfl
  | .pt cs o => rfl
  | .loc k o => by simp only [renD, swp_swp]
  | .el k o => by simp only [renD, swp_swp]
  | .ms k e o l c => by simp only [renD, swp_swp]
  | .fn g l r => by simp only [renD, renL_renL]
  | .ifc t x => by simp only [renD, renD_renD]
theorem renL_renL {i j : Nat} : ∀ l : List DV, renL (swp i j) (renL (swp i j) l) = l
  | [] => rfl
  | d :: r => by simp only [renL, renD_renD, renL_renL]
end
theorem renS_renS {i j : Nat} : ∀ l : List (Nat × Sl), renS (swp i j) (renS (swp i j) l) = l
  | [] => rfl
  | (k, ⟨gs, s⟩) :: r => by simp only [renS, renD_renD, renS_renS]
theorem renO_renO {i j : Nat} : ∀ l : List (List DV), renO (swp i j) (renO (swp i j) l) = l
  | [] => rfl
  | c :: r => by simp only [renO, renL_renL, renO_renO]
theorem renO_swL {i j : Nat} (f : Nat → Nat) (l : List (List DV)) (hi : i < l.length) (hj : j < l.length) : renO f (swL i j l) = swL i j (renO f l) := by
  apply List.ext_getElem?
  intro k
  rw [renO_get, swL_get hi hj, swL_get (by rw [renO_length]; exact hi) (by rw [renO_length]; exact hj), renO_get]
theorem renSt_renSt {i j : Nat} {S : St} (hi : i < S.bx.length) (hj : j < S.bx.length) : renSt i j (renSt i j S) = S := by
  obtain ⟨sl, bx, tk⟩ := S
  simp only [renSt, renS_renS]
  rw [renO_swL _ _ (by rw [renO_length]; exact hi) (by rw [renO_length]; exact hj), renO_renO]
  congr 1
  apply List.ext_getElem?
  intro k
  rw [swL_get (by rw [swL_length]; exact hi) (by rw [swL_length]; exact hj), swL_get hi hj, swp_swp]

/-- A call, with two objects under each other's numbers from then on. -/
theorem CallG.ren2 {f : FuncId} {args : List DV} {dst : Option Nat} (i j : Nat) (hi0 : Nat.ble X.n0 i = true) (hj0 : Nat.ble X.n0 j = true) (hi : Nat.blt i st.bx.length = true) (hj : Nat.blt j st.bx.length = true)
    (h : CallG X f (renL (swp i j) args) dst k (renSt i j st)) (hX : X.bt = [] := by exact rfl) : CallG X f args dst k st := by
  have hi' := hi
  have hj' := hj
  simp only [Nat.blt_eq] at hi' hj'
  have hl : (renSt i j st).bx.length = st.bx.length := by simp only [renSt, swL_length, renO_length]
  exact CallG.ren i j (renSt_renSt hi' hj').symm (renL_renL args).symm hi0 hj0 (by rw [hl]; exact hi) (by rw [hl]; exact hj) h hX

theorem equalIn_sl {P : Program} {t e : TypeId} (hu : P.underlying t = some (.slice e)) (d : Nat) (x : Option Addr) (n c : Nat) (w : World) : (Op.equalIn (d + 1) t (.slice x n c) (.slice none 0 0)).run P w = .ok x.isNone w := by
  cases x <;> simp [Op.equalIn, run_underlying hu]
theorem equal_sl {P : Program} {t e : TypeId} (hu : P.underlying t = some (.slice e)) (x : Option Addr) (n c : Nat) (w : World) : (Op.equal t (.slice x n c) (.slice none 0 0)).run P w = .ok x.isNone w := equalIn_sl hu 9999 x n c w

/-- **A slice is compared with nil**: of an empty one both is possible. -/
theorem op_nil {t d e : Nat} {x : Operand} {es : List (List DV)} {tk : Option Nat} {n et e' by' : Nat} {bb : Bool} {z : List Value} (hop : ∃ t', o.op = .binOp .eql t x (.const (.slice none 0 0)) t') (hdst : o.dst = some d) (hx : rv st [] x = some (.sl e es tk)) (hT : X.T.find t = some ⟨n, bb, .sl et e' by', z⟩) (hd : okD X.nt st.sl (some d) = true)
    (hk : ∀ b : Bool, (es ≠ [] → b = false) → go X 4000 k ⟨(d, ⟨[], .v (.bool b)⟩) :: st.sl, st.bx, st.tk⟩) : OpG X o k st := by
  intro E a w h
  obtain ⟨t', hop⟩ := hop
  have e1 := sl_val h.rl hx
  unfold Rv at e1
  obtain ⟨b, m, cap, e1, ⟨rfl, _⟩, hr, _⟩ := e1
  obtain ⟨hu, _⟩ := und_sl X.hT hT
  have heq := equal_sl hu b es.length cap w
  have hrun : (execOp a.eval o).run X.P w = .ok (.value (.bool b.isNone)) w := by
    have hc : a.eval (.const (.slice none 0 0)) = .slice none 0 0 := rfl
    simp [execOp, hop, e1, hc, eqGuard, binOp, heq]
  refine wp_value hrun ?_
  rw [hdst]
  refine go_sound 4000 _ _ (hk b.isNone fun hne => ?_) E _ w (put_rel h hd (.v (.bool b.isNone)) _ (by unfold Rv; exact ⟨rfl, rfl⟩))
  have := okA_eq (hr hne).1
  rw [this]
  rfl

/-- **A slice literal without elements**: a row that may grow. -/
theorem op_empty {t d et e by' n : Nat} {bb : Bool} {z : List Value} (hop : o.op = .buildSlice t 0 #[]) (hdst : o.dst = some d) (hT : X.T.find t = some ⟨n, bb, .sl et e by', z⟩) (hd : okD X.nt st.sl (some d) = true) (hst : X.still = false := by exact rfl) (hX : X.bt = [] := by exact rfl)
    (hk : go X 4000 k ⟨(d, ⟨[], .sl e [] (some st.tk.length)⟩) :: st.sl, st.bx, st.tk ++ [⟨0, et, e, none⟩]⟩) : OpG X o k st := by
  intro E a w h
  obtain ⟨hu, ii, zv, hi2, hz, hsz, hby, hzs⟩ := und_sl X.hT hT
  have hsz' : szOf X.P et = some e := by rw [size_of_info hi2, hsz]
  have hrun : (execOp a.eval o).run X.P w = .ok (.value (.slice (some ⟨w.heap.size, 0, none⟩) 0 0)) (w.alloc (.cells #[] et)) := by
    have h1 : (Instr.buildSlice t 0 #[]).run X.P w = .ok (.slice (some ⟨w.heap.size, 0, none⟩) 0 0) (w.alloc (.cells #[] et)) := by
      have h0 : Array.range 0 = #[] := rfl
      simp [Instr.buildSlice, run_underlying hu, run_sizeOf' hsz', Instr.fill, newRow, h0]
    simp only [execOp, hop, List.map_toArray, List.map_nil, Sem.run_bind, h1, Result.andThen_ok, Sem.run_pure]
  refine wp_value hrun ?_
  rw [hdst]
  have hk1 := h.env.keep (w' := w.alloc (.cells #[] et)) fun i hi => alloc_old w _ hi
  let E2 : En := ⟨E.c, E.β, E.tk ++ [⟨0, et, e, none⟩], E.τ ++ [.slice (some ⟨w.heap.size, 0, none⟩) 0 0]⟩
  have hext : Ext E E2 := ⟨fun _ _ h => h, fun _ _ h => h, fun k q' hk => by
    have hlt := (List.getElem?_eq_some_iff.1 hk).1
    refine ⟨q', by show (E.tk ++ _)[k]? = _; rw [List.getElem?_append_left hlt]; exact hk, .inl ⟨rfl, ?_⟩⟩
    show (E.τ ++ _)[k]? = _
    rw [List.getElem?_append_left (by rw [h.env.tl]; exact hlt)]⟩
  have hτ : ∀ (k : Nat) y, E2.τ[k]? = some y → (k < E.τ.length ∧ E.τ[k]? = some y) ∨ (k = E.τ.length ∧ y = .slice (some ⟨w.heap.size, 0, none⟩) 0 0) := fun k y hy => by
    have hy : (E.τ ++ [Value.slice (some ⟨w.heap.size, 0, none⟩) 0 0])[k]? = some y := hy
    rw [List.getElem?_append] at hy
    split at hy
    · rename_i hk; exact .inl ⟨hk, hy⟩
    · rename_i hk
      have h0 : k - E.τ.length = 0 := by
        rcases Nat.eq_zero_or_pos (k - E.τ.length) with h0 | h0
        · exact h0
        · rw [List.getElem?_eq_none (by simp; omega)] at hy; cases hy
      rw [h0] at hy
      simp only [List.getElem?_cons_zero, Option.some.injEq] at hy
      exact .inr ⟨by omega, hy.symm⟩
  have hown : ∀ (k : Nat) y g, E.τ[k]? = some y → y.ownBlock = some g → g < w.heap.size := fun k y g hy hg => (h.env.own (List.mem_of_getElem? hy) hg).1
  have hrel : Rel X E2 ⟨st.sl, st.bx, st.tk ++ [⟨0, et, e, none⟩]⟩ a (w.alloc (.cells #[] et)) := by
    refine rel_env h hext ?_ (by show E.tk ++ _ = _; rw [h.tk]) ?_ (h.fr.alloc _) (noSt hst) (.nil hX)
    · exact {
        len := h.env.len
        tl := by show (E.τ ++ _).length = (E.tk ++ _).length; simp [h.env.tl]
        bxs := fun i cs hi => by
          obtain ⟨b, t, arr, hb, hw, hc⟩ := hk1.bxs i cs hi
          exact ⟨b, t, arr, hb, hw, hc.mono hext⟩
        inj := h.env.inj
        sub := hk1.sub
        pc := h.env.pc
        tks := fun k q' y hkq hy => by
          rcases hτ k y hy with ⟨hlt, hy'⟩ | ⟨rfl, rfl⟩
          · have hk' : (E.tk ++ [⟨0, et, e, none⟩])[k]? = some q' := hkq
            rw [List.getElem?_append_left (by rw [← h.env.tl]; exact hlt)] at hk'
            exact hk1.tks k q' y hk' hy'
          · have hk' : (E.tk ++ [⟨0, et, e, none⟩])[E.τ.length]? = some q' := hkq
            rw [List.getElem?_append_right (by rw [h.env.tl]; exact Nat.le_refl _), h.env.tl] at hk'
            simp only [Nat.sub_self, List.getElem?_cons_zero, Option.some.injEq] at hk'
            subst hk'
            refine .inr ⟨w.heap.size, 0, #[], rfl, alloc_new w _, ⟨by simp, OwnAt.none rfl⟩, Nat.le_refl _, Nat.zero_le _, fun hm => ?_, fun x v hx hxg => ?_⟩
            · have := h.env.block_lt hm; omega
            · have := World.block_lt_of_cell? w x (h.env.sub x v hx)
              omega
        tkd := fun k k' y y' g hkk hy hy' hg hg' => by
          rcases hτ k y hy with ⟨_, hy1⟩ | ⟨rfl, rfl⟩
          · rcases hτ k' y' hy' with ⟨_, hy2⟩ | ⟨rfl, rfl⟩
            · exact h.env.tkd k k' y y' g hkk hy1 hy2 hg hg'
            · have := hown k y g hy1 hg
              simp only [Value.ownBlock, Option.some.injEq] at hg'
              omega
          · rcases hτ k' y' hy' with ⟨_, hy2⟩ | ⟨rfl, rfl⟩
            · have := hown k' y' g hy2 hg'
              simp only [Value.ownBlock, Option.some.injEq] at hg
              omega
            · exact hkk rfl }
    · exact {
        c := h.nw.c
        cn := h.nw.cn
        β := h.nw.β
        tk := fun j q0 y0 hq0 hy0 => by
          obtain ⟨q', y', h1, h2, h3⟩ := h.nw.tk j q0 y0 hq0 hy0
          exact ⟨q', y', by show (E.tk ++ _)[j]? = _; rw [List.getElem?_append_left (List.getElem?_eq_some_iff.1 h1).1]; exact h1, by show (E.τ ++ _)[j]? = _; rw [List.getElem?_append_left (List.getElem?_eq_some_iff.1 h2).1]; exact h2, h3⟩
        tn := fun j y g hj hy hg => by
          rcases hτ j y hy with ⟨_, hy1⟩ | ⟨_, rfl⟩
          · exact h.nw.tn j y g hj hy1 hg
          · simp only [Value.ownBlock, Option.some.injEq] at hg
            have := h.fr.size
            omega
        l0 := h.nw.l0 }
  refine go_sound 4000 _ _ hk E2 _ _ (put_rel hrel hd (.sl e [] (some st.tk.length)) _ ?_)
  unfold Rv
  refine ⟨_, 0, 0, rfl, ⟨rfl, Nat.le_refl _⟩, fun hn => (hn rfl).elim, fun k' hk' => ?_⟩
  cases hk'
  refine ⟨⟨0, et, e, none⟩, ?_, Nat.le_refl _, fun _ => ?_⟩
  · show (E.tk ++ _)[st.tk.length]? = _
    rw [h.tk]; simp
  · show (E.τ ++ _)[st.tk.length]? = _
    rw [← h.tk, ← h.env.tl]; simp
end
end Dv
end Go.Proofs.YtmphiikdhifhjaaGreat
set_option maxRecDepth 100000
namespace Go.Proofs.YtmphiikdhifhjaaGreat
open Go Go.RowKit Dv Tryz

theorem latF_parts {l : List Wd} {o : List (Wd × Wd)} (h : (latF l o).1 = 0) : (manyF l o).1 = 0 ∧ (enumL l 0 l).1 = 0 ∧ (numF (nmTx l) o).1 = 0 ∧ firstN (loopP l.length (leqN l.length (numL (nmTx l) o))) l.length = none ∧ firstN (bndP (leqN l.length (numL (nmTx l) o)) l.length) l.length = none := by
  unfold latF at h
  split at h
  · rename_i h1; exact (h1 h).elim
  · rename_i h1
    split at h
    · rename_i h2; exact (h2 h).elim
    · rename_i h2
      split at h
      · rename_i h3; exact (h3 h).elim
      · rename_i h3
        refine ⟨by simpa using h1, by simpa using h2, by simpa using h3, ?_⟩
        split at h
        · cases h
        · rename_i h4
          refine ⟨h4, ?_⟩
          split at h
          · cases h
          · rename_i h5; exact h5
theorem firstN_none_iff {p : Nat → Bool} {n : Nat} (h : firstN p n = none) : ∀ a, a < n → p a = false := by
  intro a ha
  unfold firstN at h
  rw [List.find?_eq_none] at h
  have := h a (by simpa using ha)
  simpa using this
theorem latOK_of {l : List Wd} {o : List (Wd × Wd)} (h : (latF l o).1 = 0) : LatOK (leqN l.length (numL (nmTx l) o)) l.length ∧ l.length ≤ 32 := by
  obtain ⟨h1, h2, h3, h4, h5⟩ := latF_parts h
  have hP := numF_ok h3
  rw [nmTx_len] at hP
  have hl0 : l ≠ [] := by
    rintro rfl
    simp [manyF] at h1
  have h32 : l.length ≤ 32 := by
    rcases Nat.lt_or_ge 32 l.length with h | h
    · simp [manyF, hl0, h] at h1
    · exact h
  have hlk : ∀ a b, a < l.length → b < l.length → lackB (leqN l.length (numL (nmTx l) o)) l.length a b = false := by
    have key : ∀ a b, a ≤ b → b < l.length → lackB (leqN l.length (numL (nmTx l) o)) l.length a b = false := fun a b hab hb => by
      have := firstN_none_iff h5 b hb
      unfold bndP at this
      rw [List.any_eq_false] at this
      have := this a (by simp; omega)
      simpa using this
    intro a b ha hb
    rcases Nat.le_total a b with h | h
    · exact key a b h hb
    · have := key b a h ha
      unfold lackB at this ⊢
      rw [joinN_comm, meetN_comm]
      exact this
  refine ⟨{
    pos := List.length_pos_iff.2 hl0
    rfl' := fun a ha => leqN_refl hP ha
    tr := fun a b c ha hb hc => leqN_trans hP ha hb hc
    anti := fun a b ha hb h6 h7 => by
      have := firstN_none_iff h4 a ha
      unfold loopP at this
      rw [List.any_eq_false] at this
      have := this b (by simpa using hb)
      simp only [Bool.and_eq_true, decide_eq_true_eq, not_and] at this
      rcases Nat.lt_trichotomy a b with h8 | h8 | h8
      · exact (this (by omega) h6 h7).elim
      · exact h8
      · exact (this (by omega) h6 h7).elim
    jn := fun a b ha hb => by
      have := hlk a b ha hb
      unfold lackB at this
      simp only [Bool.or_eq_false_iff, Option.isNone_eq_false_iff] at this
      exact Option.isSome_iff_exists.1 this.1
    mt := fun a b ha hb => by
      have := hlk a b ha hb
      unfold lackB at this
      simp only [Bool.or_eq_false_iff, Option.isNone_eq_false_iff] at this
      exact Option.isSome_iff_exists.1 this.2 }, h32⟩

/-- A schema's lattice. -/
def lxOf (s : Sch) (ord : List Nat) (js : List Int) : Lx := ⟨nmTx s.levels, ord, closeR (relN s.levels.length (numL (nmTx s.levels) s.order)) s.levels.length, js, leqN s.levels.length (numL (nmTx s.levels) s.order)⟩
theorem lxOf_ok {s : Sch} {d : DV} (h : (latF s.levels s.order).1 = 0) (hd : LatD s.levels s.order d) (hw : s.levels.length ≤ 1099511627776) : ∃ ord js, (lxOf s ord js).OK ∧ d = (lxOf s ord js).pd := by
  obtain ⟨ord, js, hT, hol, hjl, hjm, rfl⟩ := hd
  obtain ⟨h1, h2⟩ := latOK_of h
  refine ⟨ord, js, ⟨hT, by show ord.length ≤ _; omega, ?_, ?_, ?_⟩, rfl⟩
  · show LatOK _ (nmTx s.levels).length
    rw [nmTx_len]; exact h1
  · show (nmTx s.levels).length ≤ 32
    rw [nmTx_len]; exact h2
  · show ∀ x y, x < (nmTx s.levels).length → y < (nmTx s.levels).length → JM _ (nmTx s.levels).length js x y
    rw [nmTx_len]; exact hjm

/-- The levels of labels, by the schema alone. -/
def levS (s : Sch) (l : List Wd) : Int := labN (leqN s.levels.length (numL (nmTx s.levels) s.order)) (nmTx s.levels) l
/-- What is wrong with names in a type, by the schema alone. -/
def knS (s : Sch) (t : Ty) : Ft := knT ⟨nmTx s.levels, [], [], [], fun _ _ => false⟩ (tL s) t
mutual
theorem knT_names {X Y : Lx} (h : X.names = Y.names) (L : List ByteArray) : ∀ t : Ty, knT X L t = knT Y L t
  | .mk h1 ps => by rw [knT, knT, knP_names h L ps]
theorem knP_names {X Y : Lx} (h : X.names = Y.names) (L : List ByteArray) : ∀ ps : Pts, knP X L ps = knP Y L ps
  | .nil => by rw [knP, knP]
  | .cons p t r => by
    rw [knP, knP, knP_names h L r, knT_names h L t]
    unfold Lx.bad
    rw [h]
end
theorem knS_eq (s : Sch) (ord : List Nat) (js : List Int) (t : Ty) : knT (lxOf s ord js) (tL s) t = knS s t := knT_names (X := lxOf s ord js) (Y := ⟨nmTx s.levels, [], [], [], fun _ _ => false⟩) rfl (tL s) t

/-- **What is wrong with a schema**, as the program finds it. -/
def resF (s : Sch) : Ft :=
  if (latF s.levels s.order).1 ≠ 0 then latF s.levels s.order
  else if (namedF s).1 ≠ 0 then namedF s
  else if (eaR s.root s.types 0).1.1 ≠ 0 then (eaR s.root s.types 0).1
  else if (eaL (knS s) (knS s s.root) s.types).1 ≠ 0 then eaL (knS s) (knS s s.root) s.types
  else loopF s

/-- The nodes of types. -/
def ndsAll (lev : List Wd → Int) (s : Sch) : List (Wd × Ty) → Nat → List Nd
  | [], _ => []
  | x :: r, k => ndsT lev s x.2 k ++ ndsAll lev s r (k + x.2.nn)
def resN (s : Sch) : List Nd := ndsAll (levS s) s s.types 0
def resNds (s : Sch) : List Nd := resN s ++ ndsT (levS s) s s.root (resN s).length
def resRoot (s : Sch) : Int := idxF s s.root (resN s).length
def planC (s : Sch) (ord ord2 : List Nat) (js : List Int) : List DV :=
  [(lxOf s ord js).pd, .sl 7 (dNds (resNds s)) none, .v (.int .i64 (resRoot s)), .pt (dTbl (tL s) ord2) 0, .sl 1 (dInts (namedL s)) none]
/-- A schema's plan. -/
def PlanD (s : Sch) (d : DV) : Prop := ∃ ord ord2 js, (lxOf s ord js).OK ∧ TblOK (tL s) ord2 ∧ ord2.length ≤ s.types.length ∧ d = .pt (planC s ord ord2 js) 0
def ResΦ (s : Sch) (r : DV) (_ : List (List DV)) (_ : List TkE) : Prop :=
  if (resF s).1 ≠ 0 then r = .tup [.v (.pointer none), (resF s).d] else ∃ d, PlanD s d ∧ r = .tup [d, Ft.d (0, 0)]
theorem resΦ_bad {s : Sch} {f : Ft} {os : List (List DV)} {tk : List TkE} (h : resF s = f) (hf : f.1 ≠ 0) : ResΦ s (.tup [.v (.pointer none), f.d]) os tk := by
  unfold ResΦ
  rw [h, if_pos hf]
theorem resΦ_ok {s : Sch} {d : DV} {os : List (List DV)} {tk : List TkE} (h : (resF s).1 = 0) (hd : PlanD s d) : ResΦ s (.tup [d, Ft.d (0, 0)]) os tk := by
  unfold ResΦ
  rw [if_neg (by rw [h]; simp)]
  exact ⟨d, hd, rfl⟩

theorem eaL_ok {F : Ty → Ft} {z : Ft} : ∀ {l : List (Wd × Ty)}, (eaL F z l).1 = 0 → z.1 = 0 ∧ ∀ x ∈ l, (F x.2).1 = 0
  | [], h => ⟨h, fun x hx => by cases hx⟩
  | x :: r, h => by
    rw [eaL] at h
    split at h
    · rename_i h1; exact (h1 h).elim
    · rename_i h1
      obtain ⟨h2, h3⟩ := eaL_ok h
      refine ⟨h2, fun y hy => ?_⟩
      rcases List.mem_cons.1 hy with rfl | hy
      · simpa using h1
      · exact h3 y hy
theorem eaR_ok {z : Ty} : ∀ {l : List (Wd × Ty)} {m : Int}, 0 ≤ m → (eaR z l m).1.1 = 0 → (wrong z 1 0).1.1 = 0 ∧ (∀ x ∈ l, (wrong x.2 1 0).1.1 = 0) ∧ (eaR z l m).2 = m + ((l.map fun x => x.2.cnt).sum + z.cnt : Nat) ∧ (eaR z l m).2 ≤ 512
  | [], m, _, h => by
    rw [eaR] at h ⊢
    obtain ⟨h1, h2, h3, _⟩ := rightF_ok h
    exact ⟨h3, (fun x hx => by cases hx), (by simp [h1]), h2⟩
  | x :: r, m, hm, h => by
    rw [eaR] at h ⊢
    split at h
    · rename_i h1; exact (h1 h).elim
    · rename_i h1
      rw [if_neg h1]
      obtain ⟨g1, g2, g3, _⟩ := rightF_ok (by simpa using h1)
      obtain ⟨h2, h3, h4, h5⟩ := eaR_ok (by omega) h
      refine ⟨h2, fun y hy => ?_, (by rw [h4, g1]; simp only [List.map_cons, List.sum_cons]; omega), h5⟩
      rcases List.mem_cons.1 hy with rfl | hy
      · exact g3
      · exact h3 y hy
theorem ndsAll_len (lev : List Wd → Int) (s : Sch) : ∀ (l : List (Wd × Ty)) (k : Nat), (ndsAll lev s l k).length = (l.map fun x => x.2.nn).sum
  | [], _ => rfl
  | x :: r, k => by simp only [ndsAll, List.length_append, ndsT_len, ndsAll_len lev s r, List.map_cons, List.sum_cons]
theorem sum_nn_cnt : ∀ l : List (Wd × Ty), (l.map fun x => x.2.nn).sum ≤ (l.map fun x => x.2.cnt).sum
  | [] => Nat.le_refl _
  | x :: r => by
    have := x.2.nn_cnt
    have := sum_nn_cnt r
    simp only [List.map_cons, List.sum_cons]
    omega
theorem dNds_flen : ∀ l : List Nd, (dNds l).flatten.length = l.length * 7
  | [] => rfl
  | a :: r => by
    have := dNds_flen r
    simp only [dNds, List.map_cons, List.flatten_cons, List.length_append, List.length_cons] at this ⊢
    rw [this]
    simp only [dNd, List.length_cons, List.length_nil]
    omega
theorem knT_ref {X : Lx} {s : Sch} {t : Ty} (h : (knT X (tL s) t).1 = 0) : refB s t = true := by
  obtain ⟨hd, ps⟩ := t
  have := (knT_ok h).1
  unfold refB
  exact decide_eq_true this
theorem loopF_ok {s : Sch} (h : (loopF s).1 = 0) : ∀ i, i < s.types.length → ∃ k, endI s (s.types.length + 1) i = some k := by
  intro i hi
  unfold loopF at h
  split at h
  · rename_i h1
    have := firstN_none_iff h1 i hi
    simp only [Option.isNone_eq_false_iff] at this
    exact Option.isSome_iff_exists.1 this
  · cases h
end Go.Proofs.YtmphiikdhifhjaaGreat
set_option maxRecDepth 100000
namespace Go.Proofs.YtmphiikdhifhjaaGreat
open Go Go.RowKit Dv Tryz

abbrev bldSt (s : Sch) (ord : List Nat) (lc : List DV) (m : Int) (f1 f2 : Int) (n : Nat) (base : List DV) (e : Nat) : St :=
  ⟨[(1, ⟨[], .loc 4 0⟩), (3, ⟨[], .loc 3 0⟩), (6, ⟨[], .loc 0 0⟩), (59, ⟨[], .sl 11 (dNms s.types) none⟩), (60, ⟨[], .v (.int .i64 (dNms s.types).length)⟩), (61, ⟨[], .v (.int .i64 e)⟩)],
   [bC s (.pt lc 0) (.loc 1 0) m, pCn s ord lc n, [.v (.int .i64 f1), .v (.int .i64 f2)], [.v (.int .i64 0), .v (.int .i64 0)], dSch s], [rowN n base]⟩

theorem build_spec (s : Sch) (hs : s.wt ≤ 1099511627776) : Ev Tryz.prog 26 [.agg (dSch s)] [] [] (ResΦ s) := by
  have hF := resF.eq_1 s
  have hw := hs
  simp only [Sch.wt] at hw
  have hwl := wdsWt_len s.levels
  have hwn := nmsWt_len s.types
  have hlb := lbuild_spec s.levels s.order (by omega) (by omega)
  have hcal := fun lc => bcalled_spec s lc (by omega)
  have hbig : ∀ t, (t = s.root ∨ ∃ x ∈ s.types, t = x.2) → t.wt ≤ 1099511627776 := fun t ht => by
    rcases ht with rfl | ⟨x, hx, rfl⟩
    · omega
    · have := nmsWt_mem hx; omega
  have heaR := fun lc ord => eachR_spec s lc ord 0 (by omega) (by omega) (by omega) hbig
  have heaL := fun (X : Lx) (hX : X.OK) (ord : List Nat) (hT : TblOK (tL s) ord) (hol : ord.length ≤ 1099511627776) (m : Int) => each_spec s X.pd (pC0 s ord (dLs X.names (dTbl X.names X.ord) X.rows X.js)) m (by omega) 92 (enters_of Tryz.func92 (by decide +kernel) rfl) (knT X (tL s)) (fun t ht => known_spec hX s ord (.pt (dLs X.names (dTbl X.names X.ord) X.rows X.js) 0) (.v (.slice none 0 0)) (.v (.int .i64 0)) (.v (.slice none 0 0)) m hT hol t.wt t (Nat.le_refl _) (hbig t ht))
  have hnamed : (namedF s).1 = 0 → s.types.length ≤ 64 := fun h => by
    unfold namedF at h
    split at h
    · cases h
    · omega
  have hLx := fun d h hd => @lxOf_ok s d h hd (by omega)
  have hloop := fun (lat : DV) (ord : List Nat) (a b c e0 : DV) (m : Int) => loops_spec s lat ord a b c e0 m
  have hplace := fun (lc : List DV) (ord : List Nat) (m : Int) => places_spec s lc ord m
  have hnode := fun (X : Lx) (hX : X.OK) (ord : List Nat) (m : Int) (hT : TblOK (tL s) ord) (hol : ord.length ≤ 1099511627776) (t : Ty) (ht : t.wt ≤ 1099511627776) => node_spec hX s ord m hT hol t.wt t (Nat.le_refl _) ht
  refine ev_go (P := Tryz.prog) tt tt_ok 5000 85 [.tmp 2, .cell 3 33] Tryz.func26 rfl Tryz.ntmps26 rfl (Nat.le_of_ble_eq_true rfl) (fun E9 w9 hn9 hm9 => ?_)
  generalize hS : s = S at *
  obtain ⟨levels, order, types, ⟨rh, rp⟩⟩ := s
  subst hS
  refine call_e (enters_of Tryz.func88 (by decide +kernel) rfl) rfl hlb (by repeat' (first | exact rfl | exact trivial | exact Or.inr (Or.inl ⟨_, rfl⟩) | exact Or.inr ⟨_, rfl⟩ | exact Or.inl ⟨rfl, rfl⟩ | exact Or.inl rfl | refine Or.inr ⟨_, _, rfl, Nat.zero_le _, rfl, ?_⟩ | refine ⟨_, _, rfl, ?_, ?_⟩ | refine ⟨_, rfl, ?_⟩ | refine Or.inr (Or.inr (Or.inr ⟨_, _, rfl, ?_⟩)) | exact Or.inl rfl | refine Or.inr ?_)) (fun r hr => ?_)
  by_cases hL : (latF levels order).1 ≠ 0
  · have hL' := hL
    rw [if_pos (show (latF (Sch.mk levels order types (.mk rh rp)).levels (Sch.mk levels order types (.mk rh rp)).order).1 ≠ 0 from hL)] at hF
    unfold LatΦ at hr
    rw [if_pos (show (latF (Sch.mk levels order types (.mk rh rp)).levels (Sch.mk levels order types (.mk rh rp)).order).1 ≠ 0 from hL)] at hr
    subst hr
    refine br (fun h => ?_) (fun h => ?_)
    · refine drawG_s mo (by decide +kernel) ?_
      exact ⟨_, (by repeat' (first | exact rfl | exact trivial | exact Or.inr (Or.inl ⟨_, rfl⟩) | exact Or.inr ⟨_, rfl⟩ | exact Or.inl ⟨rfl, rfl⟩ | exact Or.inl rfl | refine Or.inr ⟨_, _, rfl, Nat.zero_le _, rfl, ?_⟩ | refine ⟨_, _, rfl, ?_, ?_⟩ | refine ⟨_, rfl, ?_⟩ | refine Or.inr (Or.inr (Or.inr ⟨_, _, rfl, ?_⟩)) | exact Or.inl rfl | refine Or.inr ?_)), resΦ_bad (os := []) (tk := []) hF hL⟩
    · exfalso
      simp at h
      exact hL h
  unfold LatΦ at hr
  rw [if_neg (show ¬ (latF (Sch.mk levels order types (.mk rh rp)).levels (Sch.mk levels order types (.mk rh rp)).order).1 ≠ 0 from hL)] at hF hr
  obtain ⟨d, hd, rfl⟩ := hr
  have hL0 : (latF levels order).1 = 0 := by simpa using hL
  obtain ⟨ord, js, hX, rfl⟩ := hLx d hL0 hd
  generalize hXX : lxOf ⟨levels, order, types, .mk rh rp⟩ ord js = X at hX
  refine br (fun h => ?_) (fun _ => ?_)
  · exfalso
    simp at h
    exact hL h
  refine CallG.ren2 0 4 rfl rfl rfl rfl (CallG.ren2 1 3 rfl rfl rfl rfl ?_)
  refine call_os 2 0 (enters_of Tryz.func89 (by decide +kernel) rfl) rfl rfl rfl (by repeat' (first | exact rfl | exact trivial | exact Or.inr (Or.inl ⟨_, rfl⟩) | exact Or.inr ⟨_, rfl⟩ | exact Or.inl ⟨rfl, rfl⟩ | exact Or.inl rfl | refine Or.inr ⟨_, _, rfl, Nat.zero_le _, rfl, ?_⟩ | refine ⟨_, _, rfl, ?_, ?_⟩ | refine ⟨_, rfl, ?_⟩ | exact ⟨Nat.le_of_ble_eq_true rfl, rfl⟩ | refine Or.inr (Or.inr (Or.inr ⟨_, _, rfl, ?_⟩)) | exact Or.inl rfl | refine Or.inr ?_)) (by repeat' (first | exact rfl | exact trivial | exact Or.inr (Or.inl ⟨_, rfl⟩) | exact Or.inr ⟨_, rfl⟩ | exact Or.inl ⟨rfl, rfl⟩ | exact Or.inl rfl | refine Or.inr ⟨_, _, rfl, Nat.zero_le _, rfl, ?_⟩ | refine ⟨_, _, rfl, ?_, ?_⟩ | refine ⟨_, rfl, ?_⟩ | exact ⟨Nat.le_of_ble_eq_true rfl, rfl⟩ | refine Or.inr (Or.inr (Or.inr ⟨_, _, rfl, ?_⟩)) | exact Or.inl rfl | refine Or.inr ?_)) (hcal (dLs X.names (dTbl X.names X.ord) X.rows X.js)) (fun r os' tk' hΦ h1 h2 => ?_)
  obtain ⟨rfl, hord⟩ := hΦ
  have h2 := List.eq_nil_of_length_eq_zero h2
  subst h2
  by_cases hNm : (namedF ⟨levels, order, types, .mk rh rp⟩).1 ≠ 0
  · rw [if_pos hNm] at hF
    obtain ⟨a, b, rfl⟩ : ∃ a b, os' = [a, b] := by
      match os', h1 with
      | [a, b], _ => exact ⟨a, b, rfl⟩
    refine br (fun h => ?_) (fun h => ?_)
    · refine drawG_s mo (by decide +kernel) ?_
      exact ⟨_, (by repeat' (first | exact rfl | exact trivial | exact Or.inr (Or.inl ⟨_, rfl⟩) | exact Or.inr ⟨_, rfl⟩ | exact Or.inl ⟨rfl, rfl⟩ | exact Or.inl rfl | refine Or.inr ⟨_, _, rfl, Nat.zero_le _, rfl, ?_⟩ | refine ⟨_, _, rfl, ?_, ?_⟩ | refine ⟨_, rfl, ?_⟩ | refine Or.inr (Or.inr (Or.inr ⟨_, _, rfl, ?_⟩)) | exact Or.inl rfl | refine Or.inr ?_)), resΦ_bad (os := []) (tk := []) hF hNm⟩
    · exfalso
      simp at h
      exact hNm h
  rw [if_neg hNm] at hF
  have hNm0 : (namedF ⟨levels, order, types, .mk rh rp⟩).1 = 0 := by simpa using hNm
  have hl64 := hnamed hNm0
  obtain ⟨ord2, hT, hol, rfl⟩ := hord hNm0
  refine br (fun h => ?_) (fun _ => ?_)
  · exfalso
    simp at h
    exact hNm h
  refine call_os 2 0 (enters_of Tryz.func90 (by decide +kernel) rfl) rfl rfl rfl (by repeat' (first | exact rfl | exact trivial | exact Or.inr (Or.inl ⟨_, rfl⟩) | exact Or.inr ⟨_, rfl⟩ | exact Or.inl ⟨rfl, rfl⟩ | exact Or.inl rfl | refine Or.inr ⟨_, _, rfl, Nat.zero_le _, rfl, ?_⟩ | refine ⟨_, _, rfl, ?_, ?_⟩ | refine ⟨_, rfl, ?_⟩ | exact ⟨Nat.le_of_ble_eq_true rfl, rfl⟩ | refine Or.inr (Or.inr (Or.inr ⟨_, _, rfl, ?_⟩)) | exact Or.inl rfl | refine Or.inr ?_)) (by repeat' (first | exact rfl | exact trivial | exact Or.inr (Or.inl ⟨_, rfl⟩) | exact Or.inr ⟨_, rfl⟩ | exact Or.inl ⟨rfl, rfl⟩ | exact Or.inl rfl | refine Or.inr ⟨_, _, rfl, Nat.zero_le _, rfl, ?_⟩ | refine ⟨_, _, rfl, ?_, ?_⟩ | refine ⟨_, rfl, ?_⟩ | exact ⟨Nat.le_of_ble_eq_true rfl, rfl⟩ | refine Or.inr (Or.inr (Or.inr ⟨_, _, rfl, ?_⟩)) | exact Or.inl rfl | refine Or.inr ?_)) (heaR (dLs X.names (dTbl X.names X.ord) X.rows X.js) ord2) (fun r os' tk' hΦ h1 h2 => ?_)
  obtain ⟨rfl, rfl⟩ := hΦ
  have h2 := List.eq_nil_of_length_eq_zero h2
  subst h2
  by_cases hR : (eaR (.mk rh rp) types 0).1.1 ≠ 0
  · rw [if_pos (show (eaR (Sch.mk levels order types (.mk rh rp)).root (Sch.mk levels order types (.mk rh rp)).types 0).1.1 ≠ 0 from hR)] at hF
    refine br (fun h => ?_) (fun h => ?_)
    · refine drawG_s mo (by decide +kernel) ?_
      exact ⟨_, (by repeat' (first | exact rfl | exact trivial | exact Or.inr (Or.inl ⟨_, rfl⟩) | exact Or.inr ⟨_, rfl⟩ | exact Or.inl ⟨rfl, rfl⟩ | exact Or.inl rfl | refine Or.inr ⟨_, _, rfl, Nat.zero_le _, rfl, ?_⟩ | refine ⟨_, _, rfl, ?_, ?_⟩ | refine ⟨_, rfl, ?_⟩ | refine Or.inr (Or.inr (Or.inr ⟨_, _, rfl, ?_⟩)) | exact Or.inl rfl | refine Or.inr ?_)), resΦ_bad (os := []) (tk := []) hF hR⟩
    · exfalso
      simp at h
      exact hR h
  rw [if_neg (show ¬ (eaR (Sch.mk levels order types (.mk rh rp)).root (Sch.mk levels order types (.mk rh rp)).types 0).1.1 ≠ 0 from hR)] at hF
  have hR0 : (eaR (.mk rh rp) types 0).1.1 = 0 := by simpa using hR
  refine br (fun h => ?_) (fun _ => ?_)
  · exfalso
    simp at h
    exact hR h
  have hea := heaL X hX ord2 hT (by have : types.length ≤ 64 := hl64; have : ord2.length ≤ types.length := hol; omega) (eaR (.mk rh rp) types 0).2
  have hkeq : ∀ t, knT X (tL ⟨levels, order, types, .mk rh rp⟩) t = knS ⟨levels, order, types, .mk rh rp⟩ t := fun t => by rw [← hXX]; exact knS_eq _ _ _ t
  have hfeq : eaL (knT X (tL ⟨levels, order, types, .mk rh rp⟩)) (knT X (tL ⟨levels, order, types, .mk rh rp⟩) (.mk rh rp)) types = eaL (knS ⟨levels, order, types, .mk rh rp⟩) (knS ⟨levels, order, types, .mk rh rp⟩ (.mk rh rp)) types := by
    rw [show knT X (tL ⟨levels, order, types, .mk rh rp⟩) = knS ⟨levels, order, types, .mk rh rp⟩ from funext hkeq]
  refine call_bf (enters_of Tryz.func90 (by decide +kernel) rfl) hea (by repeat' (first | exact rfl | exact trivial | exact Or.inr (Or.inl ⟨_, rfl⟩) | exact Or.inr ⟨_, rfl⟩ | exact Or.inl ⟨rfl, rfl⟩ | exact Or.inl rfl | refine Or.inr ⟨_, _, rfl, Nat.zero_le _, rfl, ?_⟩ | refine ⟨_, _, rfl, ?_, ?_⟩ | refine ⟨_, rfl, ?_⟩ | refine Or.inr (Or.inr (Or.inr ⟨_, _, rfl, ?_⟩)) | exact Or.inl rfl | refine Or.inr ?_)) rfl rfl ?_
  by_cases hK : (eaL (knS ⟨levels, order, types, .mk rh rp⟩) (knS ⟨levels, order, types, .mk rh rp⟩ (.mk rh rp)) types).1 ≠ 0
  · rw [if_pos (show (eaL (knS ⟨levels, order, types, .mk rh rp⟩) (knS ⟨levels, order, types, .mk rh rp⟩ (Sch.mk levels order types (.mk rh rp)).root) (Sch.mk levels order types (.mk rh rp)).types).1 ≠ 0 from hK)] at hF
    refine br (fun h => ?_) (fun h => ?_)
    · refine drawG_s mo (by decide +kernel) ?_
      refine ⟨.tup [.v (.pointer none), (eaL (knT X (tL ⟨levels, order, types, .mk rh rp⟩)) (knT X (tL ⟨levels, order, types, .mk rh rp⟩) (.mk rh rp)) types).d], (by repeat' (first | exact rfl | exact trivial | exact Or.inr (Or.inl ⟨_, rfl⟩) | exact Or.inr ⟨_, rfl⟩ | exact Or.inl ⟨rfl, rfl⟩ | exact Or.inl rfl | refine Or.inr ⟨_, _, rfl, Nat.zero_le _, rfl, ?_⟩ | refine ⟨_, _, rfl, ?_, ?_⟩ | refine ⟨_, rfl, ?_⟩ | refine Or.inr (Or.inr (Or.inr ⟨_, _, rfl, ?_⟩)) | exact Or.inl rfl | refine Or.inr ?_)), ?_⟩
      rw [hfeq]
      exact resΦ_bad (os := []) (tk := []) hF hK
    · exfalso
      simp only [hfeq] at h
      simp at h
      exact hK h
  rw [if_neg (show ¬ (eaL (knS ⟨levels, order, types, .mk rh rp⟩) (knS ⟨levels, order, types, .mk rh rp⟩ (Sch.mk levels order types (.mk rh rp)).root) (Sch.mk levels order types (.mk rh rp)).types).1 ≠ 0 from hK)] at hF
  have hK0 : (eaL (knS ⟨levels, order, types, .mk rh rp⟩) (knS ⟨levels, order, types, .mk rh rp⟩ (.mk rh rp)) types).1 = 0 := by simpa using hK
  refine br (fun h => ?_) (fun _ => ?_)
  · exfalso
    have h : (!decide ((eaL (knT X (tL ⟨levels, order, types, .mk rh rp⟩)) (knT X (tL ⟨levels, order, types, .mk rh rp⟩) (.mk rh rp)) types).1 = 0)) = true := h
    rw [hfeq, hK0] at h
    simp at h
  have hw2 : wdsWt levels + prsWt order + nmsWt types + (Ty.mk rh rp).wt ≤ 1099511627776 := hw
  have hnmw : nmsWt types ≤ 1099511627776 := by omega
  obtain ⟨hkr, hkt⟩ := eaL_ok hK0
  have hkr' : (knT X (tL ⟨levels, order, types, .mk rh rp⟩) (.mk rh rp)).1 = 0 := by rw [hkeq]; exact hkr
  have hkt' : ∀ x ∈ types, (knT X (tL ⟨levels, order, types, .mk rh rp⟩) x.2).1 = 0 := fun x hx => by rw [hkeq]; exact hkt x hx
  have href : ∀ x ∈ types, refB ⟨levels, order, types, .mk rh rp⟩ x.2 = true := fun x hx => knT_ref (hkt' x hx)
  have hol' : ord2.length ≤ 1099511627776 := by have : types.length ≤ 64 := hl64; have : ord2.length ≤ types.length := hol; omega
  refine call_bf (enters_of Tryz.func93 (by decide +kernel) rfl) (hloop X.pd ord2 X.pd (.v (.slice none 0 0)) (.v (.int .i64 0)) (.v (.slice none 0 0)) (eaR (.mk rh rp) types 0).2 hT hol' hl64 href) (by repeat' (first | exact rfl | exact trivial | exact Or.inr (Or.inl ⟨_, rfl⟩) | exact Or.inr ⟨_, rfl⟩ | exact Or.inl ⟨rfl, rfl⟩ | exact Or.inl rfl | refine Or.inr ⟨_, _, rfl, Nat.zero_le _, rfl, ?_⟩ | refine ⟨_, _, rfl, ?_, ?_⟩ | refine ⟨_, rfl, ?_⟩ | refine Or.inr (Or.inr (Or.inr ⟨_, _, rfl, ?_⟩)) | exact Or.inl rfl | refine Or.inr ?_)) rfl rfl ?_
  by_cases hO : (loopF ⟨levels, order, types, .mk rh rp⟩).1 ≠ 0
  · refine br (fun h => ?_) (fun h => ?_)
    · refine drawG_s mo (by decide +kernel) ?_
      exact ⟨_, (by repeat' (first | exact rfl | exact trivial | exact Or.inr (Or.inl ⟨_, rfl⟩) | exact Or.inr ⟨_, rfl⟩ | exact Or.inl ⟨rfl, rfl⟩ | exact Or.inl rfl | refine Or.inr ⟨_, _, rfl, Nat.zero_le _, rfl, ?_⟩ | refine ⟨_, _, rfl, ?_, ?_⟩ | refine ⟨_, rfl, ?_⟩ | refine Or.inr (Or.inr (Or.inr ⟨_, _, rfl, ?_⟩)) | exact Or.inl rfl | refine Or.inr ?_)), resΦ_bad (os := []) (tk := []) hF hO⟩
    · exfalso
      simp at h
      exact hO h
  have hO0 : (loopF ⟨levels, order, types, .mk rh rp⟩).1 = 0 := by simpa using hO
  have hF0 : (resF ⟨levels, order, types, .mk rh rp⟩).1 = 0 := by rw [hF]; exact hO0
  refine br (fun h => ?_) (fun _ => ?_)
  · exfalso
    simp at h
    exact hO h
  refine call_os 2 0 (enters_of Tryz.func94 (by decide +kernel) rfl) rfl rfl rfl (by repeat' (first | exact rfl | exact trivial | exact Or.inr (Or.inl ⟨_, rfl⟩) | exact Or.inr ⟨_, rfl⟩ | exact Or.inl ⟨rfl, rfl⟩ | exact Or.inl rfl | refine Or.inr ⟨_, _, rfl, Nat.zero_le _, rfl, ?_⟩ | refine ⟨_, _, rfl, ?_, ?_⟩ | refine ⟨_, rfl, ?_⟩ | exact ⟨Nat.le_of_ble_eq_true rfl, rfl⟩ | refine Or.inr (Or.inr (Or.inr ⟨_, _, rfl, ?_⟩)) | exact Or.inl rfl | refine Or.inr ?_)) (by repeat' (first | exact rfl | exact trivial | exact Or.inr (Or.inl ⟨_, rfl⟩) | exact Or.inr ⟨_, rfl⟩ | exact Or.inl ⟨rfl, rfl⟩ | exact Or.inl rfl | refine Or.inr ⟨_, _, rfl, Nat.zero_le _, rfl, ?_⟩ | refine ⟨_, _, rfl, ?_, ?_⟩ | refine ⟨_, rfl, ?_⟩ | exact ⟨Nat.le_of_ble_eq_true rfl, rfl⟩ | refine Or.inr (Or.inr (Or.inr ⟨_, _, rfl, ?_⟩)) | exact Or.inl rfl | refine Or.inr ?_)) (hplace (dLs X.names (dTbl X.names X.ord) X.rows X.js) ord2 (eaR (.mk rh rp) types 0).2 hT hol' hl64 href hnmw (loopF_ok hO0)) (fun r os' tk' hΦ h1 h2 => ?_)
  subst hΦ
  have h2 := List.eq_nil_of_length_eq_zero h2
  subst h2
  clear hcal heaR heaL hloop hplace hea hlb
  have hN : (dNms types).length = types.length := dNms_len types
  obtain ⟨hwr, hwt, hcm, hc512⟩ := eaR_ok (Int.le_refl 0) hR0
  generalize (eaR (.mk rh rp) types 0).2 = m at hcm hc512 ⊢
  refine loop_i (fun j st => ∃ (e n : Nat) (base : List DV) (N : List Nd), st = bldSt ⟨levels, order, types, .mk rh rp⟩ ord2 (dLs X.names (dTbl X.names X.ord) X.rows X.js) m (loopF ⟨levels, order, types, .mk rh rp⟩).1 (loopF ⟨levels, order, types, .mk rh rp⟩).2 n base e ∧ e ≤ types.length ∧ n = N.length ∧ base = (dNds N).flatten ∧ N ++ ndsAll (levS ⟨levels, order, types, .mk rh rp⟩) ⟨levels, order, types, .mk rh rp⟩ (types.drop e) n = resN ⟨levels, order, types, .mk rh rp⟩ ∧ j = types.length - e) types.length
    (bldSt ⟨levels, order, types, .mk rh rp⟩ ord2 (dLs X.names (dTbl X.names X.ord) X.rows X.js) m (loopF ⟨levels, order, types, .mk rh rp⟩).1 (loopF ⟨levels, order, types, .mk rh rp⟩).2 0 [] 0) (weak_bt 5 ⟨0, 60, 7, some []⟩ rfl rfl rfl (by repeat' (first | exact rfl | exact we_rfl rfl | exact we_tok (Nat.le_refl _) rfl | exact we_tok (Nat.le_refl _) rfl | refine ⟨_, _, rfl, ?_, ?_⟩)) rfl rfl (by repeat' (first | exact trivial | exact we_rfl rfl | exact we_tok (Nat.le_refl _) rfl | refine ⟨⟨_, rfl, ?_⟩, ?_⟩))) ⟨0, 0, [], [], rfl, by omega, rfl, rfl, rfl, by omega⟩ ?_
  rintro j st ⟨e, n, base, N, rfl, he, hn, hbs, hNN, rfl⟩
  have hl64' : types.length ≤ 64 := hl64
  have hlev : X.lev = levS ⟨levels, order, types, .mk rh rp⟩ := by rw [← hXX]; rfl
  have htot : (resN ⟨levels, order, types, .mk rh rp⟩).length + (Ty.mk rh rp).nn ≤ 512 := by
    have h1 := sum_nn_cnt types
    have h2 := (Ty.mk rh rp).nn_cnt
    have h3 : (resN ⟨levels, order, types, .mk rh rp⟩).length = (types.map fun x => x.2.nn).sum := ndsAll_len _ _ _ _
    omega
  have hbl : base.length = n * 7 := by rw [hbs, hn, dNds_flen]
  have hNl : n + (ndsAll (levS ⟨levels, order, types, .mk rh rp⟩) ⟨levels, order, types, .mk rh rp⟩ (types.drop e) n).length = (resN ⟨levels, order, types, .mk rh rp⟩).length := by rw [← hNN, List.length_append, hn]
  refine br (fun hL => ?_) (fun hL => ?_)
  · have hlt : e < types.length := by have := hL; simp [hN] at this; exact this
    obtain ⟨x, hx⟩ : ∃ x, types[e]? = some x := ⟨_, List.getElem?_eq_getElem hlt⟩
    have hxm := List.mem_of_getElem? hx
    rw [drop_cons hx, ndsAll] at hNN hNl
    rw [List.length_append] at hNl
    have hnl := ndsT_len (levS ⟨levels, order, types, .mk rh rp⟩) ⟨levels, order, types, .mk rh rp⟩ x.2 n
    have hnx := hnode X hX ord2 m hT hol' x.2 (hbig x.2 (.inr ⟨x, hxm, rfl⟩)) (hkt' x hxm) n base (by omega) hbl
    rw [hlev] at hnx
    obtain ⟨xw, ⟨xh, xp⟩⟩ := x
    refine ⟨_, ⟨by omega, dNms_get hx⟩, ?_⟩
    refine call_os 2 1 (enters_of Tryz.func95 (by decide +kernel) rfl) rfl rfl rfl (by repeat' (first | exact rfl | exact trivial | exact Or.inr (Or.inl ⟨_, rfl⟩) | exact Or.inr ⟨_, rfl⟩ | exact Or.inl ⟨rfl, rfl⟩ | exact Or.inl rfl | refine Or.inr ⟨_, _, rfl, Nat.zero_le _, rfl, ?_⟩ | refine ⟨_, _, rfl, ?_, ?_⟩ | refine ⟨_, rfl, ?_⟩ | exact ⟨Nat.le_of_ble_eq_true rfl, rfl⟩ | refine Or.inr (Or.inr (Or.inr ⟨_, _, rfl, ?_⟩)) | exact Or.inl rfl | refine Or.inr ?_)) (by repeat' (first | exact rfl | exact trivial | exact Or.inr (Or.inl ⟨_, rfl⟩) | exact Or.inr ⟨_, rfl⟩ | exact Or.inl ⟨rfl, rfl⟩ | exact Or.inl rfl | refine Or.inr ⟨_, _, rfl, Nat.zero_le _, rfl, ?_⟩ | refine ⟨_, _, rfl, ?_, ?_⟩ | refine ⟨_, rfl, ?_⟩ | exact ⟨Nat.le_of_ble_eq_true rfl, rfl⟩ | refine Or.inr (Or.inr (Or.inr ⟨_, _, rfl, ?_⟩)) | exact Or.inl rfl | refine Or.inr ?_)) hnx (fun r os' tk' hΦ h1 h2 => ?_)
    obtain ⟨rfl, rfl, rfl⟩ := hΦ
    refine ⟨bldSt ⟨levels, order, types, .mk rh rp⟩ ord2 (dLs X.names (dTbl X.names X.ord) X.rows X.js) m (loopF ⟨levels, order, types, .mk rh rp⟩).1 (loopF ⟨levels, order, types, .mk rh rp⟩).2 (n + (ndsT (levS ⟨levels, order, types, .mk rh rp⟩) ⟨levels, order, types, .mk rh rp⟩ (.mk xh xp) n).length) (base ++ (dNds (ndsT (levS ⟨levels, order, types, .mk rh rp⟩) ⟨levels, order, types, .mk rh rp⟩ (.mk xh xp) n)).flatten) (e + 1), (weak_b 5 rfl (by repeat' (first | exact rfl | exact we_rfl rfl | exact we_int (nxt hlt (by omega)) | refine ⟨_, _, rfl, ?_, ?_⟩)) rfl rfl rfl (by repeat' (first | exact trivial | exact we_rfl rfl | exact we_int (nxt hlt (by omega)) | refine ⟨⟨_, rfl, ?_⟩, ?_⟩))), types.length - (e + 1), by omega, e + 1, _, _, N ++ ndsT (levS ⟨levels, order, types, .mk rh rp⟩) ⟨levels, order, types, .mk rh rp⟩ (.mk xh xp) n, rfl, by omega, by rw [List.length_append, hn], by rw [hbs]; simp [dNds], ?_, rfl⟩
    rw [List.append_assoc, hnl]
    exact hNN
  have hge : e = types.length := by have := hL; simp [hN] at this; omega
  subst hge
  rw [List.drop_length, ndsAll, List.append_nil] at hNN
  rw [List.drop_length, ndsAll, List.length_nil, Nat.add_zero] at hNl
  have hnr := hnode X hX ord2 m hT hol' (.mk rh rp) (by omega) hkr' n base (by omega) hbl
  rw [hlev] at hnr
  intro E a w hr
  have hr' := drew_rel hr
  obtain ⟨b0, ty0, arr0, hb0, hw0, hc0⟩ := hr'.env.bxs 0 _ rfl
  obtain ⟨b1, ty1, arr1, hb1, hw1, hc1⟩ := hr'.env.bxs 1 _ rfl
  obtain ⟨v13, hv13, hp13⟩ := RvL.get (i := 13) (d := .loc 1 0) hc0.1 rfl
  have hv13' : v13 = .pointer (some ⟨b1, 0, none⟩) := by
    unfold Rv at hp13
    obtain ⟨b, hb, rfl⟩ := hp13
    rw [hb1] at hb
    simp only [Option.some.injEq] at hb
    rw [hb]
  subst hv13'
  have hcell : w.drew.cell? ⟨b0, 13, none⟩ = some (.pointer (some ⟨b1, 0, none⟩)) := by
    rw [cell_blk hw0]
    simpa using hv13
  have hem := em_mask hr'.env [0, 1, 2, 3]
  generalize hbm : maskL [0, 1, 2, 3] 0 _ = bxm at hem
  have hbmi : ∀ (i : Nat) cs, bxm[i]? = some cs → cs ≠ [] → 2 ≤ i := fun i cs hi hne => by
    rw [← hbm] at hi
    match i, hi with
    | 0, hi => exact (hne (by simpa [maskL] using hi.symm)).elim
    | 1, hi => exact (hne (by simpa [maskL] using hi.symm)).elim
    | i + 2, _ => omega
  refine wp_region_run (C := fun w' => CC E bxm w.drew w' ∧ w'.cell? ⟨b0, 13, none⟩ = some (.pointer (some ⟨b1, 0, none⟩))) (W := fun i => Nat.beq i 10) (Q := fun a w => kq _ _ .normal a w) mo (by decide +kernel) (fun _ _ h => h) ⟨⟨fun _ _ _ _ _ _ => rfl, hr'.env.sub⟩, hcell⟩ ?_
  show Go.Proofs.YtmphiikdhifhjaaGreat.Dv.runT _ _ _ _ _ [0, 1, 2, 3, 4, 5, 6, 7, 8, 9, 10] _ _
  refine runT_np hr' rfl rfl rfl rfl rfl rfl (fun a0 h0 => ?_)
  refine runT_np h0 rfl rfl rfl rfl rfl rfl (fun a1 h1 => ?_)
  refine runT_np h1 rfl rfl rfl rfl rfl rfl (fun a2 h2 => ?_)
  refine runT_ld h2 rfl hb1 rfl rfl hb0 rfl rfl (fun w' h => h.2) ⟨⟨fun _ _ _ _ _ _ => rfl, hr'.env.sub⟩, hcell⟩ rfl rfl (fun a3 h3 => ?_)
  refine runT_np h3 rfl rfl rfl rfl rfl rfl (fun a4 h4 => ?_)
  refine runT_np h4 rfl rfl rfl rfl rfl rfl (fun a5 h5 => ?_)
  refine runT_lo h5 rfl (bx := bxm) (rl_mask h5 hem (fun w' h => h.1)) ⟨⟨fun _ _ _ _ _ _ => rfl, hr'.env.sub⟩, hcell⟩ rfl rfl (by rw [← hbm]; rfl) rfl (fun a6 h6 => ?_)
  refine runT_os h6 rfl rfl rfl rfl rfl rfl (enters_of Tryz.func95 (by decide +kernel) rfl) 2 1 rfl rfl (by repeat' (first | exact rfl | exact trivial | exact Or.inr (Or.inl ⟨_, rfl⟩) | exact Or.inr ⟨_, rfl⟩ | exact Or.inl ⟨rfl, rfl⟩ | exact Or.inl rfl | refine Or.inr ⟨_, _, rfl, Nat.zero_le _, rfl, ?_⟩ | refine ⟨_, _, rfl, ?_, ?_⟩ | refine ⟨_, rfl, ?_⟩ | exact ⟨Nat.le_of_ble_eq_true rfl, rfl⟩ | refine Or.inr (Or.inr (Or.inr ⟨_, _, rfl, ?_⟩)) | exact Or.inl rfl | refine Or.inr ?_)) (by repeat' (first | exact rfl | exact trivial | exact Or.inr (Or.inl ⟨_, rfl⟩) | exact Or.inr ⟨_, rfl⟩ | exact Or.inl ⟨rfl, rfl⟩ | exact Or.inl rfl | refine Or.inr ⟨_, _, rfl, Nat.zero_le _, rfl, ?_⟩ | refine ⟨_, _, rfl, ?_, ?_⟩ | refine ⟨_, rfl, ?_⟩ | exact ⟨Nat.le_of_ble_eq_true rfl, rfl⟩ | refine Or.inr (Or.inr (Or.inr ⟨_, _, rfl, ?_⟩)) | exact Or.inl rfl | refine Or.inr ?_)) hnr rfl rfl ?_
  intro v r os' tk' E' w' hΦ _ _ hrel hrv hx hβ hh
  obtain ⟨rfl, rfl, rfl⟩ := hΦ
  refine ⟨fun _ hC => ⟨⟨fun i b cs hb hcs hne => ?_, fun x v hxv => hrel.env.sub x v (hx.c x v hxv)⟩, ?_⟩, ?_⟩
  · exact hh i b (hbmi i cs hcs hne) hb
  · obtain ⟨b0', ty0', arr0', hb0', hw0', hc0'⟩ := hrel.env.bxs 0 _ rfl
    rw [hβ, hb0] at hb0'
    simp only [Option.some.injEq] at hb0'
    subst hb0'
    obtain ⟨u13, hu13, hq13⟩ := RvL.get (i := 13) (d := .loc 1 0) hc0'.1 rfl
    unfold Rv at hq13
    obtain ⟨b, hb, rfl⟩ := hq13
    rw [hβ, hb1] at hb
    simp only [Option.some.injEq] at hb
    subst hb
    rw [cell_blk hw0']
    simpa using hu13
  have h7 := put_rel (dst := some 77) hrel rfl _ v hrv
  have hrN : (resN ⟨levels, order, types, .mk rh rp⟩).length = n := by rw [← hNN, hn]
  have hrow : base ++ (dNds (ndsT (levS ⟨levels, order, types, .mk rh rp⟩) ⟨levels, order, types, .mk rh rp⟩ (.mk rh rp) n)).flatten = (dNds (resNds ⟨levels, order, types, .mk rh rp⟩)).flatten := by
    unfold resNds
    rw [hrN, ← hNN, hbs]
    simp [dNds]
  have hnlen : (dNds (resNds ⟨levels, order, types, .mk rh rp⟩)).length = n + (ndsT (levS ⟨levels, order, types, .mk rh rp⟩) ⟨levels, order, types, .mk rh rp⟩ (.mk rh rp) n).length := by
    unfold resNds
    rw [hrN]
    simp [dNds, hrN]
  obtain ⟨E3, h8⟩ := own_obj h7 1 1 0 (ns := dNds (resNds ⟨levels, order, types, .mk rh rp⟩)) (congrArg (fun b => some (rowN (n + (ndsT (levS ⟨levels, order, types, .mk rh rp⟩) ⟨levels, order, types, .mk rh rp⟩ (.mk rh rp) n).length) b)) hrow) (fun x hx => by
    simp only [dNds, List.mem_map] at hx
    obtain ⟨y, _, rfl⟩ := hx
    rfl) hnlen rfl rfl List.length_replicate
  refine runT_np h8 rfl rfl rfl rfl rfl rfl (fun a8 h9 => ?_)
  refine runT_np h9 rfl rfl rfl rfl rfl rfl (fun a9 h10 => ?_)
  refine runT_last h10 rfl rfl rfl rfl rfl rfl ?_
  refine ⟨.tup [.pt [X.pd, .sl 7 (dNds (resNds ⟨levels, order, types, .mk rh rp⟩)) none, .v (.int .i64 (idxF ⟨levels, order, types, .mk rh rp⟩ (.mk rh rp) n)), .pt (dTbl (tL ⟨levels, order, types, .mk rh rp⟩) ord2) 0, .sl 1 (dInts (namedL ⟨levels, order, types, .mk rh rp⟩)) none] 0, Ft.d (0, 0)], (by repeat' (first | exact rfl | exact trivial | exact Or.inr (Or.inl ⟨_, rfl⟩) | exact Or.inr ⟨_, rfl⟩ | exact Or.inl ⟨rfl, rfl⟩ | exact Or.inl rfl | refine Or.inr ⟨_, _, rfl, Nat.zero_le _, rfl, ?_⟩ | refine ⟨_, _, rfl, ?_, ?_⟩ | refine ⟨_, rfl, ?_⟩ | refine Or.inr (Or.inr (Or.inr ⟨_, _, rfl, ?_⟩)) | exact Or.inl rfl | refine Or.inr ?_)), resΦ_ok (os := []) (tk := []) hF0 ⟨ord, ord2, js, by rw [hXX]; exact hX, hT, hol, ?_⟩⟩
  rw [planC, hXX, resRoot, hrN]
end Go.Proofs.YtmphiikdhifhjaaGreat
set_option maxRecDepth 100000
namespace Go.Proofs.YtmphiikdhifhjaaGreat
open Go Go.RowKit Dv Tryz

theorem clone_s (es : List (List DV)) (hl : es.length ≤ 1099511627776) : Ev Tryz.prog 99 [.sl 1 es none] [] [] (fun r _ _ => r = .sl 1 es none ∨ (es = [] ∧ r = .v (.slice none 0 0))) := by
  refine ev_go (P := Tryz.prog) tt tt_ok 5000 8 [.tmp 2] Tryz.func99 rfl Tryz.ntmps99 rfl (Nat.le_of_ble_eq_true rfl) (fun E9 w9 hn9 hm9 => ?_)
  refine op_nil ⟨_, rfl⟩ rfl rfl rfl rfl (fun b hb => ?_)
  refine br (fun h => ?_) (fun h => ?_)
  · have h : b = true := h
    have he : es = [] := Classical.byContradiction fun hn => by rw [hb hn] at h; cases h
    subst he
    exact Or.inr ⟨rfl, rfl⟩
  · refine op_empty rfl rfl rfl rfl (hk := ?_)
    refine ⟨rfl, ⟨by simp [maxLen]; omega, by simp; omega⟩, ?_⟩
    exact ⟨_, (by repeat' (first | exact rfl | exact trivial | exact Or.inr (Or.inl ⟨_, rfl⟩) | exact Or.inr ⟨_, rfl⟩ | exact Or.inl ⟨rfl, rfl⟩ | exact Or.inl rfl | refine Or.inr ⟨_, _, rfl, Nat.zero_le _, rfl, ?_⟩ | refine ⟨_, _, rfl, ?_, ?_⟩ | refine ⟨_, rfl, ?_⟩ | refine Or.inr (Or.inr (Or.inr ⟨_, _, rfl, ?_⟩)) | exact Or.inl rfl | refine Or.inr ?_)), Or.inl rfl⟩
theorem clone_e (es : List (List DV)) (hl : es.length ≤ 1099511627776) : Ev Tryz.prog 100 [.sl 10 es none] [] [] (fun r _ _ => r = .sl 10 es none ∨ (es = [] ∧ r = .v (.slice none 0 0))) := by
  refine ev_go (P := Tryz.prog) tt tt_ok 5000 8 [.tmp 2] Tryz.func100 rfl Tryz.ntmps100 rfl (Nat.le_of_ble_eq_true rfl) (fun E9 w9 hn9 hm9 => ?_)
  refine op_nil ⟨_, rfl⟩ rfl rfl rfl rfl (fun b hb => ?_)
  refine br (fun h => ?_) (fun h => ?_)
  · have h : b = true := h
    have he : es = [] := Classical.byContradiction fun hn => by rw [hb hn] at h; cases h
    subst he
    exact Or.inr ⟨rfl, rfl⟩
  · refine op_empty rfl rfl rfl rfl (hk := ?_)
    refine ⟨rfl, ⟨by simp [maxLen]; omega, by simp; omega⟩, ?_⟩
    exact ⟨_, (by repeat' (first | exact rfl | exact trivial | exact Or.inr (Or.inl ⟨_, rfl⟩) | exact Or.inr ⟨_, rfl⟩ | exact Or.inl ⟨rfl, rfl⟩ | exact Or.inl rfl | refine Or.inr ⟨_, _, rfl, Nat.zero_le _, rfl, ?_⟩ | refine ⟨_, _, rfl, ?_, ?_⟩ | refine ⟨_, rfl, ?_⟩ | refine Or.inr (Or.inr (Or.inr ⟨_, _, rfl, ?_⟩)) | exact Or.inl rfl | refine Or.inr ?_)), Or.inl rfl⟩

def plD (lc : List DV) (nds : List Nd) (root : Int) (L : List ByteArray) (ord : List Nat) (named : List Nat) : DV := .pt [.pt lc 0, .sl 7 (dNds nds) none, .v (.int .i64 root), .pt (dTbl L ord) 0, .sl 1 (dInts named) none] 0
theorem dNds_len (l : List Nd) : (dNds l).length = l.length := by simp [dNds]
theorem dNds_get {l : List Nd} {i : Nat} {n : Nd} (h : l[i]? = some n) : (dNds l)[i]? = some (dNd n) := by simp [dNds, h]

section
variable (lc : List DV) (nds : List Nd) (root : Int) (L : List ByteArray) (ord : List Nat) (named : List Nat)
theorem plen_spec : EvP Tryz.prog 28 [plD lc nds root L ord named] (.v (.int .i64 nds.length)) := by
  refine ev_go (P := Tryz.prog) tt tt_ok 5000 10 [.tmp 2] Tryz.func28 rfl Tryz.ntmps28 rfl (Nat.le_of_ble_eq_true rfl) (fun E9 w9 hn9 hm9 => ?_)
  refine (congrArg (fun z => DV.v (.int .i64 z)) ?_ : _ = _)
  rw [dNds_len]
theorem proot_spec : EvP Tryz.prog 29 [plD lc nds root L ord named] (.v (.int .i64 root)) := by
  refine ev_go (P := Tryz.prog) tt tt_ok 5000 9 [.tmp 2] Tryz.func29 rfl Tryz.ntmps29 rfl (Nat.le_of_ble_eq_true rfl) (fun E9 w9 hn9 hm9 => ?_)
  exact (rfl : _ = _)
theorem plat_spec : EvP Tryz.prog 30 [plD lc nds root L ord named] (.pt lc 0) := by
  refine ev_go (P := Tryz.prog) tt tt_ok 5000 9 [.tmp 2] Tryz.func30 rfl Tryz.ntmps30 rfl (Nat.le_of_ble_eq_true rfl) (fun E9 w9 hn9 hm9 => ?_)
  exact ⟨_, (by repeat' (first | exact rfl | exact trivial | exact Or.inr (Or.inl ⟨_, rfl⟩) | exact Or.inr ⟨_, rfl⟩ | exact Or.inl ⟨rfl, rfl⟩ | exact Or.inl rfl | refine Or.inr ⟨_, _, rfl, Nat.zero_le _, rfl, ?_⟩ | refine ⟨_, _, rfl, ?_, ?_⟩ | refine ⟨_, rfl, ?_⟩ | refine Or.inr (Or.inr (Or.inr ⟨_, _, rfl, ?_⟩)) | exact Or.inl rfl | refine Or.inr ?_)), rfl⟩
theorem pnode_spec (i : Nat) (n : Nd) (h : nds[i]? = some n) (hn : n.names.length ≤ 1099511627776) (he : n.edges.length ≤ 1099511627776) :
    EvP Tryz.prog 32 [plD lc nds root L ord named, .v (.int .i64 i)] (.tup [.agg (dNd n), .v (.bool true)]) := by
  have hlt := (List.getElem?_eq_some_iff.1 h).1
  have hlen := plen_spec lc nds root L ord named
  have hc1 := clone_s (dBs n.names) (by rw [dBs_len]; exact hn)
  have hc2 := clone_e (dEds n.edges) (by rw [dEds_len]; exact he)
  refine ev_go (P := Tryz.prog) tt tt_ok 5000 32 [.cell 4 60, .tmp 5] Tryz.func32 rfl Tryz.ntmps32 rfl (Nat.le_of_ble_eq_true rfl) (fun E9 w9 hn9 hm9 => ?_)
  refine call_p (enters_of Tryz.func28 (by decide +kernel) rfl) (hlen) (by repeat' (first | exact rfl | exact trivial | exact Or.inr (Or.inl ⟨_, rfl⟩) | exact Or.inr ⟨_, rfl⟩ | exact Or.inl ⟨rfl, rfl⟩ | exact Or.inl rfl | refine Or.inr ⟨_, _, rfl, Nat.zero_le _, rfl, ?_⟩ | refine ⟨_, _, rfl, ?_, ?_⟩ | refine ⟨_, rfl, ?_⟩ | refine Or.inr (Or.inr (Or.inr ⟨_, _, rfl, ?_⟩)) | exact Or.inl rfl | refine Or.inr ?_)) rfl ?_
  refine br (fun g => ?_) (fun g => ?_)
  · exfalso
    simp [pickB] at g
    omega
  refine ⟨_, ⟨by omega, dNds_get h⟩, ?_⟩
  refine drawG_s mo (by decide +kernel) ?_
  refine callD_e (enters_of Tryz.func99 (by decide +kernel) rfl) rfl hc1 (by repeat' (first | exact rfl | exact trivial | exact Or.inr (Or.inl ⟨_, rfl⟩) | exact Or.inr ⟨_, rfl⟩ | exact Or.inl ⟨rfl, rfl⟩ | exact Or.inl rfl | refine Or.inr ⟨_, _, rfl, Nat.zero_le _, rfl, ?_⟩ | refine ⟨_, _, rfl, ?_, ?_⟩ | refine ⟨_, rfl, ?_⟩ | refine Or.inr (Or.inr (Or.inr ⟨_, _, rfl, ?_⟩)) | exact Or.inl rfl | refine Or.inr ?_)) (fun r1 hr1 => ?_)
  rcases hr1 with rfl | ⟨h1, rfl⟩
  · refine callD_e (enters_of Tryz.func100 (by decide +kernel) rfl) rfl hc2 (by repeat' (first | exact rfl | exact trivial | exact Or.inr (Or.inl ⟨_, rfl⟩) | exact Or.inr ⟨_, rfl⟩ | exact Or.inl ⟨rfl, rfl⟩ | exact Or.inl rfl | refine Or.inr ⟨_, _, rfl, Nat.zero_le _, rfl, ?_⟩ | refine ⟨_, _, rfl, ?_, ?_⟩ | refine ⟨_, rfl, ?_⟩ | refine Or.inr (Or.inr (Or.inr ⟨_, _, rfl, ?_⟩)) | exact Or.inl rfl | refine Or.inr ?_)) (fun r2 hr2 => ?_)
    rcases hr2 with rfl | ⟨h2, rfl⟩
    · exact ⟨.tup [.agg (dNd n), .v (.bool true)], (by repeat' (first | exact rfl | exact trivial | exact Or.inr (Or.inl ⟨_, rfl⟩) | exact Or.inr ⟨_, rfl⟩ | exact Or.inl ⟨rfl, rfl⟩ | exact Or.inl rfl | refine Or.inr ⟨_, _, rfl, Nat.zero_le _, rfl, ?_⟩ | refine ⟨_, _, rfl, ?_, ?_⟩ | refine ⟨_, rfl, ?_⟩ | refine Or.inr (Or.inr (Or.inr ⟨_, _, rfl, ?_⟩)) | exact Or.inl rfl | refine Or.inr ?_)), rfl⟩
    · exact ⟨.tup [.agg (dNd n), .v (.bool true)], (by repeat' (first | exact rfl | exact trivial | exact Or.inr (Or.inl ⟨_, rfl⟩) | exact Or.inr ⟨_, rfl⟩ | exact Or.inl ⟨rfl, rfl⟩ | exact Or.inl rfl | refine Or.inr ⟨_, _, rfl, Nat.zero_le _, rfl, ?_⟩ | refine ⟨_, _, rfl, ?_, ?_⟩ | refine ⟨_, rfl, ?_⟩ | exact Or.inl ⟨h2, rfl⟩ | refine Or.inr (Or.inr (Or.inr ⟨_, _, rfl, ?_⟩)) | exact Or.inl rfl | refine Or.inr ?_)), rfl⟩
  · refine callD_e (enters_of Tryz.func100 (by decide +kernel) rfl) rfl hc2 (by repeat' (first | exact rfl | exact trivial | exact Or.inr (Or.inl ⟨_, rfl⟩) | exact Or.inr ⟨_, rfl⟩ | exact Or.inl ⟨rfl, rfl⟩ | exact Or.inl rfl | refine Or.inr ⟨_, _, rfl, Nat.zero_le _, rfl, ?_⟩ | refine ⟨_, _, rfl, ?_, ?_⟩ | refine ⟨_, rfl, ?_⟩ | refine Or.inr (Or.inr (Or.inr ⟨_, _, rfl, ?_⟩)) | exact Or.inl rfl | refine Or.inr ?_)) (fun r2 hr2 => ?_)
    rcases hr2 with rfl | ⟨h2, rfl⟩
    · exact ⟨.tup [.agg (dNd n), .v (.bool true)], (by repeat' (first | exact rfl | exact trivial | exact Or.inr (Or.inl ⟨_, rfl⟩) | exact Or.inr ⟨_, rfl⟩ | exact Or.inl ⟨rfl, rfl⟩ | exact Or.inl rfl | refine Or.inr ⟨_, _, rfl, Nat.zero_le _, rfl, ?_⟩ | refine ⟨_, _, rfl, ?_, ?_⟩ | refine ⟨_, rfl, ?_⟩ | exact Or.inl ⟨h1, rfl⟩ | refine Or.inr (Or.inr (Or.inr ⟨_, _, rfl, ?_⟩)) | exact Or.inl rfl | refine Or.inr ?_)), rfl⟩
    · exact ⟨.tup [.agg (dNd n), .v (.bool true)], (by repeat' (first | exact rfl | exact trivial | exact Or.inr (Or.inl ⟨_, rfl⟩) | exact Or.inr ⟨_, rfl⟩ | exact Or.inl ⟨rfl, rfl⟩ | exact Or.inl rfl | refine Or.inr ⟨_, _, rfl, Nat.zero_le _, rfl, ?_⟩ | refine ⟨_, _, rfl, ?_, ?_⟩ | refine ⟨_, rfl, ?_⟩ | exact Or.inl ⟨h1, rfl⟩ | exact Or.inl ⟨h2, rfl⟩ | refine Or.inr (Or.inr (Or.inr ⟨_, _, rfl, ?_⟩)) | exact Or.inl rfl | refine Or.inr ?_)), rfl⟩
theorem pnode_none (i : Int) (h : i < 0 ∨ nds.length ≤ i) :
    EvP Tryz.prog 32 [plD lc nds root L ord named, .v (.int .i64 i)] (.tup [.agg [.v (.int .i64 0), .v (.int .i64 0), .v (.int .i64 0), .v (.int .i64 0), .v (.int .i64 0), .v (.slice none 0 0), .v (.slice none 0 0)], .v (.bool false)]) := by
  have hlen := plen_spec lc nds root L ord named
  refine ev_go (P := Tryz.prog) tt tt_ok 5000 32 [.cell 4 60, .tmp 5] Tryz.func32 rfl Tryz.ntmps32 rfl (Nat.le_of_ble_eq_true rfl) (fun E9 w9 hn9 hm9 => ?_)
  refine br (fun g => ?_) (fun g => ?_)
  · refine call_p (enters_of Tryz.func28 (by decide +kernel) rfl) (hlen) (by repeat' (first | exact rfl | exact trivial | exact Or.inr (Or.inl ⟨_, rfl⟩) | exact Or.inr ⟨_, rfl⟩ | exact Or.inl ⟨rfl, rfl⟩ | exact Or.inl rfl | refine Or.inr ⟨_, _, rfl, Nat.zero_le _, rfl, ?_⟩ | refine ⟨_, _, rfl, ?_, ?_⟩ | refine ⟨_, rfl, ?_⟩ | refine Or.inr (Or.inr (Or.inr ⟨_, _, rfl, ?_⟩)) | exact Or.inl rfl | refine Or.inr ?_)) rfl ?_
    refine br (fun g2 => ?_) (fun g2 => ?_)
    · exact ⟨_, (by repeat' (first | exact rfl | exact trivial | exact Or.inr (Or.inl ⟨_, rfl⟩) | exact Or.inr ⟨_, rfl⟩ | exact Or.inl ⟨rfl, rfl⟩ | exact Or.inl rfl | refine Or.inr ⟨_, _, rfl, Nat.zero_le _, rfl, ?_⟩ | refine ⟨_, _, rfl, ?_, ?_⟩ | refine ⟨_, rfl, ?_⟩ | refine Or.inr (Or.inr (Or.inr ⟨_, _, rfl, ?_⟩)) | exact Or.inl rfl | refine Or.inr ?_)), rfl⟩
    · exfalso
      simp at g
      simp [pickB, g] at g2
      omega
  · exact ⟨_, (by repeat' (first | exact rfl | exact trivial | exact Or.inr (Or.inl ⟨_, rfl⟩) | exact Or.inr ⟨_, rfl⟩ | exact Or.inl ⟨rfl, rfl⟩ | exact Or.inl rfl | refine Or.inr ⟨_, _, rfl, Nat.zero_le _, rfl, ?_⟩ | refine ⟨_, _, rfl, ?_, ?_⟩ | refine ⟨_, rfl, ?_⟩ | refine Or.inr (Or.inr (Or.inr ⟨_, _, rfl, ?_⟩)) | exact Or.inl rfl | refine Or.inr ?_)), rfl⟩
theorem pfind_spec (s : ByteArray) (hT : TblOK L ord) (hol : ord.length ≤ 1099511627776) (hL : named.length = L.length) :
    EvP Tryz.prog 35 [plD lc nds root L ord named, .v (.string s)] (optD2 ((ixOf L s).map fun k => named.getD k 0)) := by
  have hf := tfind_spec L ord s hT hol
  refine ev_go (P := Tryz.prog) tt tt_ok 5000 28 [.tmp 4, .tmp 5] Tryz.func35 rfl Tryz.ntmps35 rfl (Nat.le_of_ble_eq_true rfl) (fun E9 w9 hn9 hm9 => ?_)
  cases hx : ixOf L s with
  | none =>
    rw [hx] at hf
    refine call_p (enters_of Tryz.func101 (by decide +kernel) rfl) (hf) (by repeat' (first | exact rfl | exact trivial | exact Or.inr (Or.inl ⟨_, rfl⟩) | exact Or.inr ⟨_, rfl⟩ | exact Or.inl ⟨rfl, rfl⟩ | exact Or.inl rfl | refine Or.inr ⟨_, _, rfl, Nat.zero_le _, rfl, ?_⟩ | refine ⟨_, _, rfl, ?_, ?_⟩ | refine ⟨_, rfl, ?_⟩ | refine Or.inr (Or.inr (Or.inr ⟨_, _, rfl, ?_⟩)) | exact Or.inl rfl | refine Or.inr ?_)) rfl ?_
    exact ⟨_, (by repeat' (first | exact rfl | exact trivial | exact Or.inr (Or.inl ⟨_, rfl⟩) | exact Or.inr ⟨_, rfl⟩ | exact Or.inl ⟨rfl, rfl⟩ | exact Or.inl rfl | refine Or.inr ⟨_, _, rfl, Nat.zero_le _, rfl, ?_⟩ | refine ⟨_, _, rfl, ?_, ?_⟩ | refine ⟨_, rfl, ?_⟩ | refine Or.inr (Or.inr (Or.inr ⟨_, _, rfl, ?_⟩)) | exact Or.inl rfl | refine Or.inr ?_)), rfl⟩
  | some k =>
    rw [hx] at hf
    have hk := (ixOf_some hx).1
    obtain ⟨z, hz⟩ : ∃ z, named[k]? = some z := ⟨_, List.getElem?_eq_getElem (by omega)⟩
    have hg : named.getD k 0 = z := by simp [List.getD_eq_getElem?_getD, hz]
    refine call_p (enters_of Tryz.func101 (by decide +kernel) rfl) (hf) (by repeat' (first | exact rfl | exact trivial | exact Or.inr (Or.inl ⟨_, rfl⟩) | exact Or.inr ⟨_, rfl⟩ | exact Or.inl ⟨rfl, rfl⟩ | exact Or.inl rfl | refine Or.inr ⟨_, _, rfl, Nat.zero_le _, rfl, ?_⟩ | refine ⟨_, _, rfl, ?_, ?_⟩ | refine ⟨_, rfl, ?_⟩ | refine Or.inr (Or.inr (Or.inr ⟨_, _, rfl, ?_⟩)) | exact Or.inl rfl | refine Or.inr ?_)) rfl ?_
    refine ⟨_, ⟨by omega, dInts_get hz⟩, ?_⟩
    refine ⟨_, ?_, rfl⟩
    show Cc _ _ _ _ (optD2 (some (named.getD k 0))) _
    rw [hg]
    exact (by repeat' (first | exact rfl | exact trivial | exact Or.inr (Or.inl ⟨_, rfl⟩) | exact Or.inr ⟨_, rfl⟩ | exact Or.inl ⟨rfl, rfl⟩ | exact Or.inl rfl | refine Or.inr ⟨_, _, rfl, Nat.zero_le _, rfl, ?_⟩ | refine ⟨_, _, rfl, ?_, ?_⟩ | refine ⟨_, rfl, ?_⟩ | refine Or.inr (Or.inr (Or.inr ⟨_, _, rfl, ?_⟩)) | exact Or.inl rfl | refine Or.inr ?_))
end

/-! ### No plan -/
theorem plen_nil : EvP Tryz.prog 28 [.v (.pointer none)] (.v (.int .i64 0)) := by
  refine ev_go (P := Tryz.prog) tt tt_ok 5000 10 [.tmp 2] Tryz.func28 rfl Tryz.ntmps28 rfl (Nat.le_of_ble_eq_true rfl) (fun E9 w9 hn9 hm9 => ?_)
  exact (rfl : _ = _)
theorem proot_nil : EvP Tryz.prog 29 [.v (.pointer none)] (.v (.int .i64 (-1))) := by
  refine ev_go (P := Tryz.prog) tt tt_ok 5000 9 [.tmp 2] Tryz.func29 rfl Tryz.ntmps29 rfl (Nat.le_of_ble_eq_true rfl) (fun E9 w9 hn9 hm9 => ?_)
  exact (rfl : _ = _)
theorem plat_nil : EvP Tryz.prog 30 [.v (.pointer none)] (.v (.pointer none)) := by
  refine ev_go (P := Tryz.prog) tt tt_ok 5000 9 [.tmp 2] Tryz.func30 rfl Tryz.ntmps30 rfl (Nat.le_of_ble_eq_true rfl) (fun E9 w9 hn9 hm9 => ?_)
  exact (rfl : _ = _)
theorem pfind_nil (s : ByteArray) : EvP Tryz.prog 35 [.v (.pointer none), .v (.string s)] (.tup [.v (.int .i64 0), .v (.bool false)]) := by
  refine ev_go (P := Tryz.prog) tt tt_ok 5000 28 [.tmp 4, .tmp 5] Tryz.func35 rfl Tryz.ntmps35 rfl (Nat.le_of_ble_eq_true rfl) (fun E9 w9 hn9 hm9 => ?_)
  exact ⟨_, (by repeat' (first | exact rfl | exact trivial | exact Or.inr (Or.inl ⟨_, rfl⟩) | exact Or.inr ⟨_, rfl⟩ | exact Or.inl ⟨rfl, rfl⟩ | exact Or.inl rfl | refine Or.inr ⟨_, _, rfl, Nat.zero_le _, rfl, ?_⟩ | refine ⟨_, _, rfl, ?_, ?_⟩ | refine ⟨_, rfl, ?_⟩ | refine Or.inr (Or.inr (Or.inr ⟨_, _, rfl, ?_⟩)) | exact Or.inl rfl | refine Or.inr ?_)), rfl⟩
theorem pnode_nil (i : Int) : EvP Tryz.prog 32 [.v (.pointer none), .v (.int .i64 i)] (.tup [.agg [.v (.int .i64 0), .v (.int .i64 0), .v (.int .i64 0), .v (.int .i64 0), .v (.int .i64 0), .v (.slice none 0 0), .v (.slice none 0 0)], .v (.bool false)]) := by
  refine ev_go (P := Tryz.prog) tt tt_ok 5000 32 [.cell 4 60, .tmp 5] Tryz.func32 rfl Tryz.ntmps32 rfl (Nat.le_of_ble_eq_true rfl) (fun E9 w9 hn9 hm9 => ?_)
  refine br (fun g => ?_) (fun g => ?_)
  · refine call_p (enters_of Tryz.func28 (by decide +kernel) rfl) (plen_nil) (by repeat' (first | exact rfl | exact trivial | exact Or.inr (Or.inl ⟨_, rfl⟩) | exact Or.inr ⟨_, rfl⟩ | exact Or.inl ⟨rfl, rfl⟩ | exact Or.inl rfl | refine Or.inr ⟨_, _, rfl, Nat.zero_le _, rfl, ?_⟩ | refine ⟨_, _, rfl, ?_, ?_⟩ | refine ⟨_, rfl, ?_⟩ | refine Or.inr (Or.inr (Or.inr ⟨_, _, rfl, ?_⟩)) | exact Or.inl rfl | refine Or.inr ?_)) rfl ?_
    refine br (fun g2 => ?_) (fun g2 => ?_)
    · exact ⟨_, (by repeat' (first | exact rfl | exact trivial | exact Or.inr (Or.inl ⟨_, rfl⟩) | exact Or.inr ⟨_, rfl⟩ | exact Or.inl ⟨rfl, rfl⟩ | exact Or.inl rfl | refine Or.inr ⟨_, _, rfl, Nat.zero_le _, rfl, ?_⟩ | refine ⟨_, _, rfl, ?_, ?_⟩ | refine ⟨_, rfl, ?_⟩ | refine Or.inr (Or.inr (Or.inr ⟨_, _, rfl, ?_⟩)) | exact Or.inl rfl | refine Or.inr ?_)), rfl⟩
    · exfalso
      simp at g
      simp [pickB, g] at g2
  · exact ⟨_, (by repeat' (first | exact rfl | exact trivial | exact Or.inr (Or.inl ⟨_, rfl⟩) | exact Or.inr ⟨_, rfl⟩ | exact Or.inl ⟨rfl, rfl⟩ | exact Or.inl rfl | refine Or.inr ⟨_, _, rfl, Nat.zero_le _, rfl, ?_⟩ | refine ⟨_, _, rfl, ?_, ?_⟩ | refine ⟨_, rfl, ?_⟩ | refine Or.inr (Or.inr (Or.inr ⟨_, _, rfl, ?_⟩)) | exact Or.inl rfl | refine Or.inr ?_)), rfl⟩
end Go.Proofs.YtmphiikdhifhjaaGreat
set_option maxRecDepth 100000
namespace Go.Proofs.YtmphiikdhifhjaaGreat
open Go Go.RowKit Dv Tryz

/-! ### Great: some bool -/
abbrev greatSt (s : Sch) (n d k q : Int) (e : Nat) : St :=
  ⟨[(1, ⟨[], .loc 0 0⟩), (3, ⟨[], .v (.int .i64 n)⟩), (4, ⟨[], .v (.int .i64 d)⟩), (5, ⟨[], .v (.int .i64 e)⟩)], [dSch s], []⟩

theorem great17_spec (s : Sch) (hbig : s.wt ≤ 1099511627776) : Ev Tryz.prog 19 [.agg (dSch s)] [] [] (fun d _ _ => ∃ b : Bool, d = .v (.bool b)) := by
  have h1 := wdsWt_len s.levels
  have h2 := prsWt_len s.order
  have h3 := nmsWt_len s.types
  simp only [Sch.wt] at hbig
  have hroot := size15_spec s.root.wt s.root (Nat.le_refl _) (by omega)
  obtain ⟨levels, order, types, ⟨h, ps⟩⟩ := s
  simp only at h1 h2 h3 hbig hroot
  refine ev_go (P := Tryz.prog) tt tt_ok 5000 60 [.tmp 2] Tryz.func19 rfl Tryz.ntmps19 rfl (Nat.le_of_ble_eq_true rfl) (fun E9 w9 hn9 hm9 => ?_)
  refine br (fun _ => ?_) (fun _ => ?_)
  · exact ⟨true, rfl⟩
  refine call_p (enters_of Tryz.func14 (by decide +kernel) rfl) (hroot) (by repeat' (first | exact rfl | exact trivial | exact Or.inr (Or.inl ⟨_, rfl⟩) | exact Or.inr ⟨_, rfl⟩ | exact Or.inl ⟨rfl, rfl⟩ | exact Or.inl rfl | refine Or.inr ⟨_, _, rfl, Nat.zero_le _, rfl, ?_⟩ | refine ⟨_, _, rfl, ?_, ?_⟩ | refine ⟨_, rfl, ?_⟩ | refine Or.inr (Or.inr (Or.inr ⟨_, _, rfl, ?_⟩)) | exact Or.inl rfl | refine Or.inr ?_)) rfl ?_
  refine loop_i (fun j st => ∃ (e : Nat) (n d : Int), st = greatSt ⟨levels, order, types, .mk h ps⟩ n d 0 0 e ∧ e ≤ types.length ∧ j = types.length - e) types.length (greatSt ⟨levels, order, types, .mk h ps⟩ (Ty.mk h ps).cnt (Ty.mk h ps).deep 0 0 0) (weak_mk ⟨_, rfl⟩ (by repeat' (first | exact rfl | exact we_rfl rfl | refine ⟨_, _, rfl, ?_, ?_⟩)) rfl rfl rfl (by repeat' (first | exact trivial | exact we_rfl rfl | refine ⟨⟨_, rfl, ?_⟩, ?_⟩))) ⟨0, _, _, rfl, by omega, by omega⟩ ?_
  rintro j st ⟨e, n, d, rfl, he, rfl⟩
  refine br (fun hL => ?_) (fun hL => ?_)
  · have hlt : e < types.length := by have := hL; simp [dNms_len] at this; exact this
    obtain ⟨w, hw⟩ : ∃ w, types[e]? = some w := ⟨_, List.getElem?_eq_getElem hlt⟩
    have hwt := nmsWt_mem (List.mem_of_getElem? hw)
    have hs := size15_spec w.2.wt w.2 (Nat.le_refl _) (by omega)
    obtain ⟨w, u, us⟩ := w
    simp only at hs
    refine ⟨_, ⟨by omega, dNms_get hw⟩, ?_⟩
    refine call_p (enters_of Tryz.func14 (by decide +kernel) rfl) (hs) (by repeat' (first | exact rfl | exact trivial | exact Or.inr (Or.inl ⟨_, rfl⟩) | exact Or.inr ⟨_, rfl⟩ | exact Or.inl ⟨rfl, rfl⟩ | exact Or.inl rfl | refine Or.inr ⟨_, _, rfl, Nat.zero_le _, rfl, ?_⟩ | refine ⟨_, _, rfl, ?_, ?_⟩ | refine ⟨_, rfl, ?_⟩ | refine Or.inr (Or.inr (Or.inr ⟨_, _, rfl, ?_⟩)) | exact Or.inl rfl | refine Or.inr ?_)) rfl ?_
    refine br (fun _ => ?_) (fun _ => ?_)
    · exact ⟨greatSt ⟨levels, order, types, .mk h ps⟩ _ _ 0 0 (e + 1), (weak_mk ⟨_, rfl⟩ (by repeat' (first | exact rfl | exact we_rfl rfl | refine ⟨_, _, rfl, ?_, ?_⟩)) rfl rfl rfl (by repeat' (first | exact trivial | exact we_rfl rfl | exact we_int (nxt hlt (by omega)) | refine ⟨⟨_, rfl, ?_⟩, ?_⟩))), types.length - (e + 1), by omega, e + 1, _, _, rfl, by omega, rfl⟩
    · exact ⟨greatSt ⟨levels, order, types, .mk h ps⟩ _ _ 0 0 (e + 1), (weak_mk ⟨_, rfl⟩ (by repeat' (first | exact rfl | exact we_rfl rfl | refine ⟨_, _, rfl, ?_, ?_⟩)) rfl rfl rfl (by repeat' (first | exact trivial | exact we_rfl rfl | exact we_int (nxt hlt (by omega)) | refine ⟨⟨_, rfl, ?_⟩, ?_⟩))), types.length - (e + 1), by omega, e + 1, _, _, rfl, by omega, rfl⟩
  exact ⟨_, rfl⟩

/-! ### The same, but for places -/
def samePrs : List (Wd × Wd) → List (Wd × Wd) → Bool
  | [], [] => true
  | x :: r, y :: s => (decide (x.1.s = y.1.s) && decide (x.2.s = y.2.s)) && samePrs r s
  | _, _ => false
def sameNms : List (Wd × Ty) → List (Wd × Ty) → Bool
  | [], [] => true
  | x :: r, y :: s => (decide (x.1.s = y.1.s) && sameTy x.2 y.2) && sameNms r s
  | _, _ => false
def sameS (a b : Sch) : Bool := sameWds a.levels b.levels && samePrs a.order b.order && sameTy a.root b.root && sameNms a.types b.types

theorem samePrs_len : ∀ {a b : List (Wd × Wd)}, a.length ≠ b.length → samePrs a b = false
  | [], [], h => (h rfl).elim
  | [], _ :: _, _ => rfl
  | _ :: _, [], _ => rfl
  | x :: r, y :: s, h => by
    simp only [samePrs]
    rw [samePrs_len (a := r) (b := s) (by simpa using h), Bool.and_false]
theorem sameNms_len : ∀ {a b : List (Wd × Ty)}, a.length ≠ b.length → sameNms a b = false
  | [], [], h => (h rfl).elim
  | [], _ :: _, _ => rfl
  | _ :: _, [], _ => rfl
  | x :: r, y :: s, h => by
    simp only [sameNms]
    rw [sameNms_len (a := r) (b := s) (by simpa using h), Bool.and_false]

abbrev same17St1 (a b : Sch) (e : Nat) : St :=
  ⟨[(2, ⟨[], .loc 0 0⟩), (3, ⟨[], .loc 1 0⟩), (5, ⟨[], .v (.int .i64 e)⟩)], [dSch a, dSch b], []⟩
abbrev same17St2 (a b : Sch) (e : Nat) : St :=
  ⟨[(2, ⟨[], .loc 0 0⟩), (3, ⟨[], .loc 1 0⟩), (6, ⟨[], .v (.int .i64 e)⟩)], [dSch a, dSch b], []⟩
abbrev same17St3 (a b : Sch) (e : Nat) : St :=
  ⟨[(2, ⟨[], .loc 0 0⟩), (3, ⟨[], .loc 1 0⟩), (7, ⟨[], .v (.int .i64 e)⟩)], [dSch a, dSch b], []⟩

end Go.Proofs.YtmphiikdhifhjaaGreat
set_option maxRecDepth 100000
namespace Go.Proofs.YtmphiikdhifhjaaGreat
open Go Go.RowKit Dv Tryz

theorem wd_eqIn (d : Nat) (a b : ByteArray) (p q : Int) (w : World) : (Op.equalIn (d + 1 + 1) 25 (.agg #[.string a, .int .i64 p]) (.agg #[.string b, .int .i64 q])).run Tryz.prog w = .ok (decide (a = b) && decide (p = q)) w := by
  have hf : Tryz.prog.underlying 25 = some (.struct (Tryz.prog.fieldsOf 25)) := by simp [Program.fieldsOf, Tryz.underlying25]
  have hf2 : (Tryz.prog.fieldsOf 25).toList = [⟨ "Name", 9, 0, false, "", "", 0⟩, ⟨ "At", 3, 1, false, "", "", 16⟩] := by simp [Program.fieldsOf, Tryz.underlying25]
  have hs : Tryz.prog.stoodInHeld 25 = false := by kernel_rfl
  rw [run_equalIn_struct w (d + 1) 25 _ _ hf hs, hf2]
  have e1 : (a.toList == b.toList) = decide (a = b) := by
    rw [ByteArray.toList_eq, ByteArray.toList_eq]
    by_cases h : a = b
    · subst h; simp
    · have : ¬ a.data = b.data := fun e => h (ByteArray.ext e)
      simp [h, this]
  have q9 : ∀ cs : Array Value, ∀ off v, cs[off]? = some v → (part 9 cs off).run Tryz.prog w = .ok v w := fun cs off v h => by
    simp [part, Tryz.isAgg9, h]
  have q3 : ∀ cs : Array Value, ∀ off v, cs[off]? = some v → (part 3 cs off).run Tryz.prog w = .ok v w := fun cs off v h => by
    simp [part, Tryz.isAgg3, h]
  simp only [Op.eqFields, ne_eq, String.reduceEq, not_false_eq_true, if_true, Sem.run_bind, q9 #[.string a, .int .i64 p] 0 (.string a) rfl, q9 #[.string b, .int .i64 q] 0 (.string b) rfl, Result.andThen_ok, run_equalIn_string w d 9 a b Tryz.underlying9, e1]
  by_cases h : a = b
  · simp only [h, decide_true, Bool.not_true, Bool.false_eq_true, if_false, Sem.run_bind, q3 #[.string b, .int .i64 p] 1 (.int .i64 p) rfl, q3 #[.string b, .int .i64 q] 1 (.int .i64 q) rfl, Result.andThen_ok, run_equalIn_int w d 3 .i64 .i64 p q Tryz.underlying3]
    by_cases h2 : p = q <;> simp [h2, Sem.run_pure]
  · simp [h, Sem.run_pure]

theorem max_depth : ∃ d, Op.maxDepth = d + 1 + 1 + 1 := ⟨Op.maxDepth - 3, by decide⟩

theorem wd_guard2 (op : BinOp) (w : World) (x y : Operand) (vs vs' : Array Value) : (eqGuard op 25 x y (.agg vs) (.agg vs')).run Tryz.prog w = .ok () w := by
  have h : Tryz.prog.eqGuardType Tryz.prog.depth 25 = false := by kernel_rfl
  cases op <;> simp [eqGuard, run_program, h]
theorem wd_eql (a b : ByteArray) (p q : Int) (w : World) : (binOp .eql 25 (.agg #[.string a, .int .i64 p]) (.agg #[.string b, .int .i64 q])).run Tryz.prog w = .ok (.bool (decide (a = b) && decide (p = q))) w := by
  obtain ⟨d, hm⟩ := max_depth
  have he : (Op.equal 25 (.agg #[.string a, .int .i64 p]) (.agg #[.string b, .int .i64 q])).run Tryz.prog w = .ok (decide (a = b) && decide (p = q)) w := by
    unfold Op.equal
    rw [hm]
    exact wd_eqIn (d + 1) a b p q w
  show ((do let r ← Op.equal 25 _ _; pure (Value.bool r)) : Sem Value).run Tryz.prog w = _
  simp only [Sem.run_bind, he, Result.andThen_ok, Sem.run_pure]
theorem weql_cmp (x y : Operand) (a b : Wd) : AggCmp Tryz.prog .eql x y 25 (dWd a) (dWd b) (decide (a.s = b.s) && decide (a.a = b.a)) :=
  ⟨[.string a.s, .int .i64 a.a], [.string b.s, .int .i64 b.a], rfl, rfl, fun w => ⟨wd_guard2 _ w x y _ _, wd_eql a.s b.s a.a b.a w⟩⟩

/-- Two pairs are the same. -/
def prB (a b : Wd × Wd) : Bool := (decide (a.1.s = b.1.s) && decide (a.1.a = b.1.a)) && (decide (a.2.s = b.2.s) && decide (a.2.a = b.2.a))

theorem pr_guard (w : World) (x y : Operand) (vs vs' : Array Value) : (eqGuard .neq 120 x y (.agg vs) (.agg vs')).run Tryz.prog w = .ok () w := by
  have h : Tryz.prog.eqGuardType Tryz.prog.depth 120 = false := by kernel_rfl
  simp [eqGuard, run_program, h]
theorem pr_neq (a b : Wd × Wd) (w : World) : (binOp .neq 120 (.agg #[.string a.1.s, .int .i64 a.1.a, .string a.2.s, .int .i64 a.2.a]) (.agg #[.string b.1.s, .int .i64 b.1.a, .string b.2.s, .int .i64 b.2.a])).run Tryz.prog w = .ok (.bool (!(prB a b))) w := by
  have hf : Tryz.prog.underlying 120 = some (.struct (Tryz.prog.fieldsOf 120)) := by simp [Program.fieldsOf, Tryz.underlying120]
  have hf2 : (Tryz.prog.fieldsOf 120).toList = [⟨ "Lo", 25, 0, false, "", "", 0⟩, ⟨ "Hi", 25, 2, false, "", "", 24⟩] := by simp [Program.fieldsOf, Tryz.underlying120]
  have hs : Tryz.prog.stoodInHeld 120 = false := by kernel_rfl
  obtain ⟨d, hm⟩ := max_depth
  have qp : ∀ cs : Array Value, ∀ off, (part 25 cs off).run Tryz.prog w = .ok (.agg (cs.extract off (off + 2))) w := fun cs off => by
    simp [part, Tryz.isAgg25, Tryz.sizeOf25]
  have he : (Op.equal 120 (.agg #[.string a.1.s, .int .i64 a.1.a, .string a.2.s, .int .i64 a.2.a]) (.agg #[.string b.1.s, .int .i64 b.1.a, .string b.2.s, .int .i64 b.2.a])).run Tryz.prog w = .ok (prB a b) w := by
    unfold Op.equal
    rw [hm, run_equalIn_struct w (d + 1 + 1) 120 _ _ hf hs, hf2]
    have x1 : (#[Value.string a.1.s, .int .i64 a.1.a, .string a.2.s, .int .i64 a.2.a].extract 0 (0 + 2)) = #[.string a.1.s, .int .i64 a.1.a] := rfl
    have x2 : (#[Value.string a.1.s, .int .i64 a.1.a, .string a.2.s, .int .i64 a.2.a].extract 2 (2 + 2)) = #[.string a.2.s, .int .i64 a.2.a] := rfl
    have y1 : (#[Value.string b.1.s, .int .i64 b.1.a, .string b.2.s, .int .i64 b.2.a].extract 0 (0 + 2)) = #[.string b.1.s, .int .i64 b.1.a] := rfl
    have y2 : (#[Value.string b.1.s, .int .i64 b.1.a, .string b.2.s, .int .i64 b.2.a].extract 2 (2 + 2)) = #[.string b.2.s, .int .i64 b.2.a] := rfl
    simp only [Op.eqFields, ne_eq, String.reduceEq, not_false_eq_true, if_true, Sem.run_bind, qp, Result.andThen_ok, x1, x2, y1, y2, wd_eqIn]
    unfold prB
    cases (decide (a.1.s = b.1.s) && decide (a.1.a = b.1.a))
    · simp [Sem.run_pure]
    · simp only [Bool.not_true, Bool.false_eq_true, if_false, Sem.run_bind, Result.andThen_ok, wd_eqIn, qp, x2, y2]
      cases (decide (a.2.s = b.2.s) && decide (a.2.a = b.2.a)) <;> simp [Sem.run_pure]
  show ((do let r ← Op.equal 120 _ _; pure (Value.bool !r)) : Sem Value).run Tryz.prog w = _
  simp only [Sem.run_bind, he, Result.andThen_ok, Sem.run_pure]
theorem pr_cmp (x y : Operand) (a b : Wd × Wd) : AggCmp Tryz.prog .neq x y 120 (dPr a) (dPr b) (!(prB a b)) :=
  ⟨[.string a.1.s, .int .i64 a.1.a, .string a.2.s, .int .i64 a.2.a], [.string b.1.s, .int .i64 b.1.a, .string b.2.s, .int .i64 b.2.a], rfl, rfl, fun w => ⟨pr_guard w x y _ _, pr_neq a b w⟩⟩

def eqPrs : List (Wd × Wd) → List (Wd × Wd) → Bool
  | [], [] => true
  | x :: r, y :: s => prB x y && eqPrs r s
  | _, _ => false
theorem eqPrs_len : ∀ {a b : List (Wd × Wd)}, a.length ≠ b.length → eqPrs a b = false
  | [], [], h => (h rfl).elim
  | [], _ :: _, _ => rfl
  | _ :: _, [], _ => rfl
  | x :: r, y :: s, h => by
    simp only [eqPrs]
    rw [eqPrs_len (a := r) (b := s) (by simpa using h), Bool.and_false]
theorem eqPrs_strip : ∀ a b : List (Wd × Wd), eqPrs (a.map stripPr) (b.map stripPr) = samePrs a b
  | [], [] => rfl
  | [], _ :: _ => rfl
  | _ :: _, [] => rfl
  | x :: r, y :: s => by
    have := eqPrs_strip r s
    simp only [List.map_cons, eqPrs, samePrs, this]
    rw [Bool.eq_iff_iff]
    simp [prB, stripPr, stripWd]
    intro _
    exact ⟨fun h => ⟨of_decide_eq_true h.1, of_decide_eq_true h.2⟩, fun h => ⟨decide_eq_true h.1, decide_eq_true h.2⟩⟩

abbrev eqprSt (a b : List (Wd × Wd)) (e : Nat) : St :=
  ⟨[(0, ⟨[], .sl 4 (dPrs a) none⟩), (1, ⟨[], .sl 4 (dPrs b) none⟩), (12, ⟨[], .v (.int .i64 (dPrs a).length)⟩), (13, ⟨[], .v (.int .i64 e)⟩)], [], []⟩

/-! ### Named types -/
def nmB (x y : Wd × Ty) : Bool := (decide (x.1.s = y.1.s) && decide (x.1.a = y.1.a)) && sameTy x.2 y.2

def eqNms : List (Wd × Ty) → List (Wd × Ty) → Bool
  | [], [] => true
  | x :: r, y :: s => nmB x y && eqNms r s
  | _, _ => false
theorem eqNms_len : ∀ {a b : List (Wd × Ty)}, a.length ≠ b.length → eqNms a b = false
  | [], [], h => (h rfl).elim
  | [], _ :: _, _ => rfl
  | _ :: _, [], _ => rfl
  | x :: r, y :: s, h => by
    simp only [eqNms]
    rw [eqNms_len (a := r) (b := s) (by simpa using h), Bool.and_false]

abbrev eqnSt (a b : List (Wd × Ty)) (g e : Nat) : St :=
  ⟨[(1, ⟨[], .sl 11 (dNms b) none⟩), (2, ⟨[], .fn g [] []⟩), (15, ⟨[], .sl 11 (dNms a) none⟩), (16, ⟨[], .v (.int .i64 (dNms a).length)⟩), (17, ⟨[], .v (.int .i64 e)⟩)], [], []⟩

/-! ### Sameness does not see places -/
theorem sameWds_pl : ∀ a b : List Wd, sameWds (plainW a) b = sameWds a b
  | [], [] => rfl
  | [], _ :: _ => rfl
  | _ :: _, [] => rfl
  | x :: r, y :: s => by
    have := sameWds_pl r s
    simp only [plainW, List.map_cons, sameWds] at this ⊢
    rw [this]
theorem sameWds_pr : ∀ a b : List Wd, sameWds a (plainW b) = sameWds a b
  | [], [] => rfl
  | [], _ :: _ => rfl
  | _ :: _, [] => rfl
  | x :: r, y :: s => by
    have := sameWds_pr r s
    simp only [plainW, List.map_cons, sameWds] at this ⊢
    rw [this]
mutual
theorem sameTy_l : ∀ a b : Ty, sameTy (stripT a) b = sameTy a b
  | .mk h ps, .mk k qs => by simp only [stripT, sameTy, sameHd, stripHd, stripWd, sameWds_pl, samePts_l ps qs]
theorem samePts_l : ∀ a b : Pts, samePts (stripP a) b = samePts a b
  | .nil, .nil => by simp only [stripP]
  | .nil, .cons _ _ _ => by simp only [stripP]
  | .cons _ _ _, .nil => by simp only [stripP, samePts]
  | .cons p t r, .cons q u s => by simp only [stripP, samePts, plainP, stripPh, stripWd, sameWds_pl, sameTy_l t u, samePts_l r s]
end
mutual
theorem sameTy_r : ∀ a b : Ty, sameTy a (stripT b) = sameTy a b
  | .mk h ps, .mk k qs => by simp only [stripT, sameTy, sameHd, stripHd, stripWd, sameWds_pr, samePts_r ps qs]
theorem samePts_r : ∀ a b : Pts, samePts a (stripP b) = samePts a b
  | .nil, .nil => by simp only [stripP]
  | .cons _ _ _, .nil => by simp only [stripP]
  | .nil, .cons _ _ _ => by simp only [stripP, samePts]
  | .cons p t r, .cons q u s => by simp only [stripP, samePts, plainP, stripPh, stripWd, sameWds_pr, sameTy_r t u, samePts_r r s]
end
theorem eqNms_strip : ∀ a b : List (Wd × Ty), eqNms (a.map stripNm) (b.map stripNm) = sameNms a b
  | [], [] => rfl
  | [], _ :: _ => rfl
  | _ :: _, [] => rfl
  | x :: r, y :: s => by
    have := eqNms_strip r s
    simp only [List.map_cons, eqNms, sameNms, this, nmB, stripNm, sameTy_l, sameTy_r]
    rw [Bool.eq_iff_iff]
    simp [stripWd]
    intro _ _
    exact ⟨fun h => of_decide_eq_true h, fun h => decide_eq_true h⟩
end Go.Proofs.YtmphiikdhifhjaaGreat
set_option maxRecDepth 100000
namespace Go.Proofs.YtmphiikdhifhjaaGreat
open Go Go.RowKit Dv Tryz

/-- The chapter's example: a level a; t = opt(t); the root bool. -/
def exT : Ty := .mk ⟨6, 0, 0, 0, 0, [], ⟨emptyB, 0⟩⟩ (.cons zeroPh (.mk ⟨9, 0, 0, 0, 0, [], ⟨⟨#[116]⟩, 0⟩⟩ .nil) .nil)
def exS : Sch := ⟨[⟨⟨#[97]⟩, 0⟩], [], [(⟨⟨#[116]⟩, 0⟩, exT)], .mk ⟨1, 0, 0, 0, 0, [], ⟨emptyB, 0⟩⟩ .nil⟩

theorem ex_ok : nameOK ⟨#[116]⟩ = true := by decide +kernel
theorem ex_wrong : (wrong exT 1 0).1.1 = 0 := by
  simp [exT, wrong, wrongOne, ownB, sameTy, sameHd, samePts, sameWds, mask, maskHd, plainP, zeroPh, ex_ok]
theorem ex_wrong2 : (wrong exS.root 1 0).1.1 = 0 := by
  simp [exS, wrong, wrongOne, ownB, sameTy, sameHd, samePts, sameWds, mask, maskHd, plainP, zeroPh]
theorem ex_lat : latF exS.levels exS.order = (0, 0) := by decide +kernel
theorem ex_named : namedF exS = (0, 0) := by decide +kernel
theorem ex_cnt : exT.cnt = 2 ∧ exS.root.cnt = 1 := by decide +kernel
theorem ex_right : (eaR exS.root exS.types 0).1 = (0, 0) := by
  have h1 : rightF exT 0 = ((0, 0), 2) := by
    unfold rightF
    rw [if_neg (by rw [ex_wrong]; simp), ex_cnt.1]
    decide
  have h2 : rightF exS.root 2 = ((0, 0), 3) := by
    unfold rightF
    rw [if_neg (by rw [ex_wrong2]; simp), ex_cnt.2]
    decide
  show (eaR exS.root [(_, exT)] 0).1 = _
  rw [eaR, if_neg (by rw [h1]; simp), eaR, h1, h2]
theorem ex_known : eaL (knS exS) (knS exS exS.root) exS.types = (0, 0) := by decide +kernel
theorem ex_loop : loopF exS = (0, 0) := by decide +kernel
theorem ex_fine : (resF exS).1 = 0 := by
  unfold resF
  rw [ex_lat, ex_named, ex_right, ex_known, ex_loop]
  rfl
theorem ex_root : resRoot exS = 1 := by decide +kernel
theorem ex_node : ∃ n e, (resNds exS)[0]? = some n ∧ n.names = [] ∧ n.edges = [e] ∧ e.to = 0 := by
  refine ⟨_, _, rfl, rfl, rfl, ?_⟩
  decide +kernel
theorem ex_wt : exS.wt ≤ 1099511627776 := by decide +kernel

theorem ft_eql (p q r s : Int) (w : World) : (binOp .eql 33 (.agg #[.int .i64 p, .int .i64 q]) (.agg #[.int .i64 r, .int .i64 s])).run Tryz.prog w = .ok (.bool (decide (p = r) && decide (q = s))) w := by
  have hf : Tryz.prog.underlying 33 = some (.struct (Tryz.prog.fieldsOf 33)) := by simp [Program.fieldsOf, Tryz.underlying33]
  have hf2 : (Tryz.prog.fieldsOf 33).toList = [⟨ "E", 31, 0, false, "", "", 0⟩, ⟨ "At", 3, 1, false, "", "", 8⟩] := by simp [Program.fieldsOf, Tryz.underlying33]
  have hs : Tryz.prog.stoodInHeld 33 = false := by kernel_rfl
  obtain ⟨d, hm⟩ := max_depth
  have q9 : ∀ cs : Array Value, ∀ off v, cs[off]? = some v → (part 31 cs off).run Tryz.prog w = .ok v w := fun cs off v h => by
    simp [part, Tryz.isAgg31, h]
  have q3 : ∀ cs : Array Value, ∀ off v, cs[off]? = some v → (part 3 cs off).run Tryz.prog w = .ok v w := fun cs off v h => by
    simp [part, Tryz.isAgg3, h]
  have he : (Op.equal 33 (.agg #[.int .i64 p, .int .i64 q]) (.agg #[.int .i64 r, .int .i64 s])).run Tryz.prog w = .ok (decide (p = r) && decide (q = s)) w := by
    unfold Op.equal
    rw [hm, run_equalIn_struct w (d + 1 + 1) 33 _ _ hf hs, hf2]
    simp only [Op.eqFields, ne_eq, String.reduceEq, not_false_eq_true, if_true, Sem.run_bind, q9 #[.int .i64 p, .int .i64 q] 0 (.int .i64 p) rfl, q9 #[.int .i64 r, .int .i64 s] 0 (.int .i64 r) rfl, Result.andThen_ok, run_equalIn_int w (d + 1) 31 .i64 .i64 p r Tryz.underlying31]
    by_cases h : p = r
    · subst h
      have e1 := q3 #[.int .i64 p, .int .i64 q] 1 (.int .i64 q) rfl
      have e2 := q3 #[.int .i64 p, .int .i64 s] 1 (.int .i64 s) rfl
      have e3 := run_equalIn_int w (d + 1) 3 .i64 .i64 q s Tryz.underlying3
      by_cases h2 : q = s
      · subst h2
        simp [e1, e3, Sem.run_pure]
      · simp [e1, e2, e3, h2, Sem.run_pure]
    · simp [h, Sem.run_pure]
  show ((do let r ← Op.equal 33 _ _; pure (Value.bool r)) : Sem Value).run Tryz.prog w = _
  simp only [Sem.run_bind, he, Result.andThen_ok, Sem.run_pure]
theorem ft_guard (op : BinOp) (w : World) (x y : Operand) (vs vs' : Array Value) : (eqGuard op 33 x y (.agg vs) (.agg vs')).run Tryz.prog w = .ok () w := by
  have h : Tryz.prog.eqGuardType Tryz.prog.depth 33 = false := by kernel_rfl
  cases op <;> simp [eqGuard, run_program, h]
theorem ft_cmp (x y : Operand) (f g : Ft) : AggCmp Tryz.prog .eql x y 33 [.v (.int .i64 f.1), .v (.int .i64 f.2)] [.v (.int .i64 g.1), .v (.int .i64 g.2)] (decide (f.1 = g.1) && decide (f.2 = g.2)) :=
  ⟨[.int .i64 f.1, .int .i64 f.2], [.int .i64 g.1, .int .i64 g.2], rfl, rfl, fun w => ⟨ft_guard _ w x y _ _, ft_eql f.1 f.2 g.1 g.2 w⟩⟩

theorem lives18_spec : EvP Tryz.prog 25 [] (.v (.bool true)) := by
  have hb := build_spec exS ex_wt
  obtain ⟨n, e, hn, hnm, hne, hto⟩ := ex_node
  refine ev_go (P := Tryz.prog) tt tt_ok 5000 53 [.tmp 0] Tryz.func25 rfl Tryz.ntmps25 rfl (Nat.le_of_ble_eq_true rfl) (fun E9 w9 hn9 hm9 => ?_)
  refine call_e (enters_of Tryz.func26 (by decide +kernel) rfl) rfl hb (by repeat' (first | exact rfl | exact trivial | exact Or.inr (Or.inl ⟨_, rfl⟩) | exact Or.inr ⟨_, rfl⟩ | exact Or.inl ⟨rfl, rfl⟩ | exact Or.inl rfl | refine Or.inr ⟨_, _, rfl, Nat.zero_le _, rfl, ?_⟩ | refine ⟨_, _, rfl, ?_, ?_⟩ | refine ⟨_, rfl, ?_⟩ | refine Or.inr (Or.inr (Or.inr ⟨_, _, rfl, ?_⟩)) | exact Or.inl rfl | refine Or.inr ?_)) (fun r hr => ?_)
  unfold ResΦ at hr
  rw [if_neg (by rw [ex_fine]; simp)] at hr
  obtain ⟨d, ⟨ord, ord2, js, hX, hT, hol, rfl⟩, rfl⟩ := hr
  have hnode := pnode_spec (dLs (lxOf exS ord js).names (dTbl (lxOf exS ord js).names (lxOf exS ord js).ord) (lxOf exS ord js).rows (lxOf exS ord js).js) (resNds exS) (resRoot exS) (tL exS) ord2 (namedL exS) 0 n hn (by rw [hnm]; decide) (by rw [hne]; simp)
  have hroot := proot_spec (dLs (lxOf exS ord js).names (dTbl (lxOf exS ord js).names (lxOf exS ord js).ord) (lxOf exS ord js).rows (lxOf exS ord js).js) (resNds exS) (resRoot exS) (tL exS) ord2 (namedL exS)
  rw [ex_root] at hroot
  refine call_p (enters_of Tryz.func32 (by decide +kernel) rfl) hnode (by repeat' (first | exact rfl | exact trivial | exact Or.inr (Or.inl ⟨_, rfl⟩) | exact Or.inr ⟨_, rfl⟩ | exact Or.inl ⟨rfl, rfl⟩ | exact Or.inl rfl | refine Or.inr ⟨_, _, rfl, Nat.zero_le _, rfl, ?_⟩ | refine ⟨_, _, rfl, ?_, ?_⟩ | refine ⟨_, rfl, ?_⟩ | refine Or.inr (Or.inr (Or.inr ⟨_, _, rfl, ?_⟩)) | exact Or.inl rfl | refine Or.inr ?_)) rfl ?_
  refine ⟨_, ft_cmp _ _ (0, 0) (0, 0), ?_⟩
  have hel : (dEds n.edges).length = 1 := by rw [hne]; rfl
  have heg : (dEds n.edges)[0]? = some (dEd e) := by rw [hne]; rfl
  refine br (fun g => ?_) (fun g => ?_)
  · refine ⟨_, ⟨by omega, heg⟩, ?_⟩
    refine br (fun g2 => ?_) (fun g2 => ?_)
    · refine call_p (enters_of Tryz.func29 (by decide +kernel) rfl) hroot (by repeat' (first | exact rfl | exact trivial | exact Or.inr (Or.inl ⟨_, rfl⟩) | exact Or.inr ⟨_, rfl⟩ | exact Or.inl ⟨rfl, rfl⟩ | exact Or.inl rfl | refine Or.inr ⟨_, _, rfl, Nat.zero_le _, rfl, ?_⟩ | refine ⟨_, _, rfl, ?_, ?_⟩ | refine ⟨_, rfl, ?_⟩ | refine Or.inr (Or.inr (Or.inr ⟨_, _, rfl, ?_⟩)) | exact Or.inl rfl | refine Or.inr ?_)) rfl ?_
      refine (congrArg (fun b => DV.v (.bool b)) ?_ : _ = _)
      simp [pickB] at g2
      simp [pickB, g2]
    · exfalso
      simp [pickB, hto] at g2
  · exfalso
    have g := g
    simp [pickB, hel] at g
end Go.Proofs.YtmphiikdhifhjaaGreat
set_option maxRecDepth 100000
namespace Go.Proofs.YtmphiikdhifhjaaGreat
open Go Go.RowKit Dv Tryz

theorem none18_spec (i : Int) (s : ByteArray) : EvP Tryz.prog 6 [.v (.int .i64 i), .v (.string s)] (.v (.bool true)) := by
  refine ev_go (P := Tryz.prog) tt tt_ok 5000 46 [.tmp 4] Tryz.func6 rfl Tryz.ntmps6 rfl (Nat.le_of_ble_eq_true rfl) (fun E9 w9 hn9 hm9 => ?_)
  refine call_p (enters_of Tryz.func32 (by decide +kernel) rfl) (pnode_nil i) (by repeat' (first | exact rfl | exact trivial | exact Or.inr (Or.inl ⟨_, rfl⟩) | exact Or.inr ⟨_, rfl⟩ | exact Or.inl ⟨rfl, rfl⟩ | exact Or.inl rfl | refine Or.inr ⟨_, _, rfl, Nat.zero_le _, rfl, ?_⟩ | refine ⟨_, _, rfl, ?_, ?_⟩ | refine ⟨_, rfl, ?_⟩ | refine Or.inr (Or.inr (Or.inr ⟨_, _, rfl, ?_⟩)) | exact Or.inl rfl | refine Or.inr ?_)) rfl ?_
  refine call_p (enters_of Tryz.func35 (by decide +kernel) rfl) (pfind_nil s) (by repeat' (first | exact rfl | exact trivial | exact Or.inr (Or.inl ⟨_, rfl⟩) | exact Or.inr ⟨_, rfl⟩ | exact Or.inl ⟨rfl, rfl⟩ | exact Or.inl rfl | refine Or.inr ⟨_, _, rfl, Nat.zero_le _, rfl, ?_⟩ | refine ⟨_, _, rfl, ?_, ?_⟩ | refine ⟨_, rfl, ?_⟩ | refine Or.inr (Or.inr (Or.inr ⟨_, _, rfl, ?_⟩)) | exact Or.inl rfl | refine Or.inr ?_)) rfl ?_
  refine call_p (enters_of Tryz.func28 (by decide +kernel) rfl) (plen_nil) (by repeat' (first | exact rfl | exact trivial | exact Or.inr (Or.inl ⟨_, rfl⟩) | exact Or.inr ⟨_, rfl⟩ | exact Or.inl ⟨rfl, rfl⟩ | exact Or.inl rfl | refine Or.inr ⟨_, _, rfl, Nat.zero_le _, rfl, ?_⟩ | refine ⟨_, _, rfl, ?_, ?_⟩ | refine ⟨_, rfl, ?_⟩ | refine Or.inr (Or.inr (Or.inr ⟨_, _, rfl, ?_⟩)) | exact Or.inl rfl | refine Or.inr ?_)) rfl ?_
  refine call_p (enters_of Tryz.func29 (by decide +kernel) rfl) (proot_nil) (by repeat' (first | exact rfl | exact trivial | exact Or.inr (Or.inl ⟨_, rfl⟩) | exact Or.inr ⟨_, rfl⟩ | exact Or.inl ⟨rfl, rfl⟩ | exact Or.inl rfl | refine Or.inr ⟨_, _, rfl, Nat.zero_le _, rfl, ?_⟩ | refine ⟨_, _, rfl, ?_, ?_⟩ | refine ⟨_, rfl, ?_⟩ | refine Or.inr (Or.inr (Or.inr ⟨_, _, rfl, ?_⟩)) | exact Or.inl rfl | refine Or.inr ?_)) rfl ?_
  refine call_p (enters_of Tryz.func30 (by decide +kernel) rfl) (plat_nil) (by repeat' (first | exact rfl | exact trivial | exact Or.inr (Or.inl ⟨_, rfl⟩) | exact Or.inr ⟨_, rfl⟩ | exact Or.inl ⟨rfl, rfl⟩ | exact Or.inl rfl | refine Or.inr ⟨_, _, rfl, Nat.zero_le _, rfl, ?_⟩ | refine ⟨_, _, rfl, ?_, ?_⟩ | refine ⟨_, rfl, ?_⟩ | refine Or.inr (Or.inr (Or.inr ⟨_, _, rfl, ?_⟩)) | exact Or.inl rfl | refine Or.inr ?_)) rfl ?_
  refine call_p (enters_of Tryz.func25 (by decide +kernel) rfl) (lives18_spec) (by repeat' (first | exact rfl | exact trivial | exact Or.inr (Or.inl ⟨_, rfl⟩) | exact Or.inr ⟨_, rfl⟩ | exact Or.inl ⟨rfl, rfl⟩ | exact Or.inl rfl | refine Or.inr ⟨_, _, rfl, Nat.zero_le _, rfl, ?_⟩ | refine ⟨_, _, rfl, ?_, ?_⟩ | refine ⟨_, rfl, ?_⟩ | refine Or.inr (Or.inr (Or.inr ⟨_, _, rfl, ?_⟩)) | exact Or.inl rfl | refine Or.inr ?_)) rfl ?_
  exact (rfl : _ = _)
theorem none18_law (i : Int) (_ : I64 i) (s : ByteArray) (_ : s.size ≤ 1048576) : EvP Tryz.prog 6 [.v (.int .i64 i), .v (.string s)] (.v (.bool true)) := none18_spec i s
end Go.Proofs.YtmphiikdhifhjaaGreat
