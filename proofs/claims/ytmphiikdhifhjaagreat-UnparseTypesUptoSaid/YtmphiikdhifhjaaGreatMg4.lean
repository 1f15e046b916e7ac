/- Part 4 of the proof: The program's text of a type: field, tag, kind; unparse.Type, once the checker's check is known; A type with which nothing is wrong is fine for its text; Readable data as data of the evaluator: what the statement's form reads of an argument is a datum of the evaluator, of the argument's type, no heavier than what was read; What is read of a type, as the plain data; From a contract over data to what a law's statement asks: the arguments are read, the call returns true, all that was there stays; What all laws' frames share: the bulk, the program's closed facts; The program's and the reference's check of names that must differ; The checker's part, once check is known for lighter types; The checker's parts, once check is known for lighter types; The checker's one and check, once check is known for lighter types; so check; The reference's Wrong returns what is wrong with a type; The law of a type's text: the call returns true. No condition. -/
import Derived.Deep.Slices
import Derived.ChangeArms
import Derived.DataReads
import Derived.WalkKit
import Derived.ProofKit
import Derived.OpenShut
import Derived.Carry
import Derived.JoinedCond
import Derived.Test.YtmphiikdhifhjaaGreatRows
import Derived.Test.YtmphiikdhifhjaaGreatMg2
import Derived.Test.YtmphiikdhifhjaaGreatMg3
set_option linter.all false
set_option maxRecDepth 100000
namespace Go.Proofs.YtmphiikdhifhjaaGreat
open Go Go.RowKit Dv Tryz

theorem ptsT_map (tag : Bool) : ∀ ps : Pts, ptsT tag ps = ps.toList.map fun x => partT tag x.1 (tyT x.2)
  | .nil => rfl
  | .cons p t r => by simp [ptsT, Pts.toList, ptsT_map tag r]

theorem field_spec (p : Ph) (t : Ty) (hb : p.bare = false) (hp : p.wt ≤ 1099511627776) (hw : I64 p.wide) (hc : I64 p.cn) (h0 : 0 ≤ p.wide) (hl : (tyT t).length ≤ 1099511627776)
    (ht : EvP Tryz.prog 72 [.agg (dTy t)] (.v (.string (ba (tyT t))))) :
    EvP Tryz.prog 128 [.agg (dPh p (dTy t))] (.v (.string (ba (partT false p (tyT t))))) := by
  have hm := marks_spec p t hp hw hc h0
  have l1 := marksT_len hw hc
  obtain ⟨⟨ns, na⟩, bare, label, wide, ck, cn, ca, cl⟩ := p
  simp only [Ph.wt, Wd.wt] at hp l1
  simp only at hb
  subst hb
  obtain ⟨th, tps⟩ := t
  refine ev_go (P := Tryz.prog) tt tt_ok 5000 14 [.tmp 2] Tryz.func128 rfl Tryz.ntmps128 rfl (Nat.le_of_ble_eq_true rfl) (fun E9 w9 hn9 hm9 => ?_)
  refine drawG_i (fun _ => false) mo (by decide +kernel) ?_
  refine ⟨by (simp only [sz_app, sz_ba, List.length_cons, List.length_nil]; omega), ?_⟩
  refine callD_p (enters_of Tryz.func72 (by decide +kernel) rfl) (ht) (by repeat' (first | exact rfl | exact trivial | exact Or.inr (Or.inl ⟨_, rfl⟩) | exact Or.inr ⟨_, rfl⟩ | exact Or.inl ⟨rfl, rfl⟩ | exact Or.inl rfl | refine Or.inr ⟨_, _, rfl, Nat.zero_le _, rfl, ?_⟩ | refine ⟨_, _, rfl, ?_, ?_⟩ | refine ⟨_, rfl, ?_⟩ | refine Or.inr (Or.inr (Or.inr ⟨_, _, rfl, ?_⟩)) | exact Or.inl rfl | refine Or.inr ?_)) rfl ?_
  refine ⟨by (simp only [sz_app, sz_ba, List.length_cons, List.length_nil]; omega), ?_⟩
  refine callD_p (enters_of Tryz.func169 (by decide +kernel) rfl) (hm) (by repeat' (first | exact rfl | exact trivial | exact Or.inr (Or.inl ⟨_, rfl⟩) | exact Or.inr ⟨_, rfl⟩ | exact Or.inl ⟨rfl, rfl⟩ | exact Or.inl rfl | refine Or.inr ⟨_, _, rfl, Nat.zero_le _, rfl, ?_⟩ | refine ⟨_, _, rfl, ?_, ?_⟩ | refine ⟨_, rfl, ?_⟩ | refine Or.inr (Or.inr (Or.inr ⟨_, _, rfl, ?_⟩)) | exact Or.inl rfl | refine Or.inr ?_)) rfl ?_
  refine ⟨by (simp only [sz_app, sz_ba, List.length_cons, List.length_nil]; omega), ?_⟩
  refine (congrArg (fun s => DV.v (.string s)) (ba_ext ?_) : _ = _)
  simp [partT, tx_app, tx_mk]

theorem tag_spec (p : Ph) (t : Ty) (hp : p.wt ≤ 1099511627776) (hw : I64 p.wide) (hc : I64 p.cn) (h0 : p.bare = false → 0 ≤ p.wide) (hl : p.bare = false → (tyT t).length ≤ 1099511627776)
    (ht : p.bare = false → EvP Tryz.prog 72 [.agg (dTy t)] (.v (.string (ba (tyT t))))) :
    EvP Tryz.prog 129 [.agg (dPh p (dTy t))] (.v (.string (ba (partT true p (tyT t))))) := by
  have hm := fun hb => marks_spec p t hp hw hc (h0 hb)
  have l1 := marksT_len hw hc
  obtain ⟨⟨ns, na⟩, bare, label, wide, ck, cn, ca, cl⟩ := p
  simp only [Ph.wt, Wd.wt] at hp l1
  simp only at h0 hl ht hm
  obtain ⟨th, tps⟩ := t
  cases bare
  · have hl := hl rfl
    have ht := ht rfl
    have hm := hm rfl
    refine ev_go (P := Tryz.prog) tt tt_ok 5000 20 [.tmp 2] Tryz.func129 rfl Tryz.ntmps129 rfl (Nat.le_of_ble_eq_true rfl) (fun E9 w9 hn9 hm9 => ?_)
    refine drawG_i (fun _ => false) mo (by decide +kernel) ?_
    refine ⟨by (simp only [sz_app, sz_ba, List.length_cons, List.length_nil]; omega), ?_⟩
    refine callD_p (enters_of Tryz.func72 (by decide +kernel) rfl) (ht) (by repeat' (first | exact rfl | exact trivial | exact Or.inr (Or.inl ⟨_, rfl⟩) | exact Or.inr ⟨_, rfl⟩ | exact Or.inl ⟨rfl, rfl⟩ | exact Or.inl rfl | refine Or.inr ⟨_, _, rfl, Nat.zero_le _, rfl, ?_⟩ | refine ⟨_, _, rfl, ?_, ?_⟩ | refine ⟨_, rfl, ?_⟩ | refine Or.inr (Or.inr (Or.inr ⟨_, _, rfl, ?_⟩)) | exact Or.inl rfl | refine Or.inr ?_)) rfl ?_
    refine ⟨by (simp only [sz_app, sz_ba, List.length_cons, List.length_nil]; omega), ?_⟩
    refine ⟨by (simp only [sz_app, sz_ba, List.length_cons, List.length_nil]; omega), ?_⟩
    refine callD_p (enters_of Tryz.func169 (by decide +kernel) rfl) (hm) (by repeat' (first | exact rfl | exact trivial | exact Or.inr (Or.inl ⟨_, rfl⟩) | exact Or.inr ⟨_, rfl⟩ | exact Or.inl ⟨rfl, rfl⟩ | exact Or.inl rfl | refine Or.inr ⟨_, _, rfl, Nat.zero_le _, rfl, ?_⟩ | refine ⟨_, _, rfl, ?_, ?_⟩ | refine ⟨_, rfl, ?_⟩ | refine Or.inr (Or.inr (Or.inr ⟨_, _, rfl, ?_⟩)) | exact Or.inl rfl | refine Or.inr ?_)) rfl ?_
    refine ⟨by (simp only [sz_app, sz_ba, List.length_cons, List.length_nil]; omega), ?_⟩
    refine (congrArg (fun s => DV.v (.string s)) (ba_ext ?_) : _ = _)
    simp [partT, tx_app, tx_mk]
  · refine ev_go (P := Tryz.prog) tt tt_ok 5000 20 [.tmp 2] Tryz.func129 rfl Tryz.ntmps129 rfl (Nat.le_of_ble_eq_true rfl) (fun E9 w9 hn9 hm9 => ?_)
    refine (congrArg (fun s => DV.v (.string s)) (ba_ext ?_) : _ = _)
    simp [partT]

theorem kind_any : ∀ (k : Nat) (t : Ty), t.wt ≤ k → t.wt ≤ 1099511627776 → fineT t →
    EvP Tryz.prog 72 [.agg (dTy t)] (.v (.string (ba (tyT t))))
  | 0, t, hn, _, _ => by have := t.wt_pos; omega
  | k + 1, .mk h ps, hn, hbig, hf => by
    have ih := kind_any k
    have hlen := tyT_len hf
    simp only [Ty.wt, Hd.wt, Wd.wt] at hn hbig hlen
    simp only [fineT] at hf
    obtain ⟨f1, f2, f3, f4, f5, f6⟩ := hf
    have l1 := putD_size f1.1 f1.2
    have l2 := putD_size f2.1 f2.2
    have l3 := putD_size f3.1 f3.2
    have lp := Pts.wt_len ps
    have lw := wdsWt_len h.names
    have j3 := jl_wds h.names
    have j1 := joinT_len (f := []) (s := [44, 32]) (by simp) (by simp) (h.names.map wdT)
    have jp := fun tag => ptsT_len (tag := tag) f6
    have jq := fun tag => joinT_len (f := []) (s := [44, 32]) (by simp) (by simp) (ptsT tag ps)
    obtain ⟨kind, at', lo, hi, most, names, name⟩ := h
    simp only at hn hbig hlen f1 f2 f3 f4 f5 f6 l1 l2 l3 lw j3 j1
    refine ev_go (P := Tryz.prog) tt tt_ok 5000 77 [.tmp 2] Tryz.func72 rfl Tryz.ntmps72 rfl (Nat.le_of_ble_eq_true rfl) (fun E9 w9 hn9 hm9 => ?_)
    refine br (fun k1 => ?_) (fun k1 => ?_)
    · have k1 : kind = 1 := of_decide_eq_true k1
      subst k1
      refine (congrArg (fun s => DV.v (.string s)) (ba_ext ?_) : _ = _)
      simp [tyT, headT, tx_mk]
    have k1 : ¬ kind = 1 := of_decide_eq_false k1
    refine br (fun k2 => ?_) (fun k2 => ?_)
    · have k2 : kind = 2 := of_decide_eq_true k2
      subst k2
      refine drawG_i (fun _ => false) mo (by decide +kernel) ?_
      refine callD_p (enters_of Tryz.func126 (by decide +kernel) rfl) (put_spec lo f1.1 f1.2) (by repeat' (first | exact rfl | exact trivial | exact Or.inr (Or.inl ⟨_, rfl⟩) | exact Or.inr ⟨_, rfl⟩ | exact Or.inl ⟨rfl, rfl⟩ | exact Or.inl rfl | refine Or.inr ⟨_, _, rfl, Nat.zero_le _, rfl, ?_⟩ | refine ⟨_, _, rfl, ?_, ?_⟩ | refine ⟨_, rfl, ?_⟩ | refine Or.inr (Or.inr (Or.inr ⟨_, _, rfl, ?_⟩)) | exact Or.inl rfl | refine Or.inr ?_)) rfl ?_
      refine ⟨by (simp only [sz_app, sz_ba, List.length_cons, List.length_nil]; omega), ?_⟩
      refine ⟨by (simp only [sz_app, sz_ba, List.length_cons, List.length_nil]; omega), ?_⟩
      refine callD_p (enters_of Tryz.func126 (by decide +kernel) rfl) (put_spec hi f2.1 f2.2) (by repeat' (first | exact rfl | exact trivial | exact Or.inr (Or.inl ⟨_, rfl⟩) | exact Or.inr ⟨_, rfl⟩ | exact Or.inl ⟨rfl, rfl⟩ | exact Or.inl rfl | refine Or.inr ⟨_, _, rfl, Nat.zero_le _, rfl, ?_⟩ | refine ⟨_, _, rfl, ?_, ?_⟩ | refine ⟨_, rfl, ?_⟩ | refine Or.inr (Or.inr (Or.inr ⟨_, _, rfl, ?_⟩)) | exact Or.inl rfl | refine Or.inr ?_)) rfl ?_
      refine ⟨by (simp only [sz_app, sz_ba, List.length_cons, List.length_nil]; omega), ?_⟩
      refine ⟨by (simp only [sz_app, sz_ba, List.length_cons, List.length_nil]; omega), ?_⟩
      refine (congrArg (fun s => DV.v (.string s)) (ba_ext ?_) : _ = _)
      simp [tyT, headT, tx_app, tx_mk, tx_putD]
    have k2 : ¬ kind = 2 := of_decide_eq_false k2
    refine br (fun k3 => ?_) (fun k3 => ?_)
    · have k3 : kind = 3 := of_decide_eq_true k3
      subst k3
      refine call_p (enters_of Tryz.func126 (by decide +kernel) rfl) (put_spec most f3.1 f3.2) (by repeat' (first | exact rfl | exact trivial | exact Or.inr (Or.inl ⟨_, rfl⟩) | exact Or.inr ⟨_, rfl⟩ | exact Or.inl ⟨rfl, rfl⟩ | exact Or.inl rfl | refine Or.inr ⟨_, _, rfl, Nat.zero_le _, rfl, ?_⟩ | refine ⟨_, _, rfl, ?_, ?_⟩ | refine ⟨_, rfl, ?_⟩ | refine Or.inr (Or.inr (Or.inr ⟨_, _, rfl, ?_⟩)) | exact Or.inl rfl | refine Or.inr ?_)) rfl ?_
      refine ⟨by (simp only [sz_app, sz_ba, List.length_cons, List.length_nil]; omega), ?_⟩
      refine ⟨by (simp only [sz_app, sz_ba, List.length_cons, List.length_nil]; omega), ?_⟩
      refine (congrArg (fun s => DV.v (.string s)) (ba_ext ?_) : _ = _)
      simp [tyT, headT, tx_app, tx_mk, tx_putD]
    have k3 : ¬ kind = 3 := of_decide_eq_false k3
    refine br (fun k4 => ?_) (fun k4 => ?_)
    · have k4 : kind = 4 := of_decide_eq_true k4
      subst k4
      refine call_p (enters_of Tryz.func78 (by decide +kernel) rfl) (listW_spec names (by omega)) (by repeat' (first | exact rfl | exact trivial | exact Or.inr (Or.inl ⟨_, rfl⟩) | exact Or.inr ⟨_, rfl⟩ | exact Or.inl ⟨rfl, rfl⟩ | exact Or.inl rfl | refine Or.inr ⟨_, _, rfl, Nat.zero_le _, rfl, ?_⟩ | refine ⟨_, _, rfl, ?_, ?_⟩ | refine ⟨_, rfl, ?_⟩ | refine Or.inr (Or.inr (Or.inr ⟨_, _, rfl, ?_⟩)) | exact Or.inl rfl | refine Or.inr ?_)) rfl ?_
      refine ⟨by (simp only [sz_app, sz_ba, List.length_cons, List.length_nil]; omega), ?_⟩
      refine ⟨by (simp only [sz_app, sz_ba, List.length_cons, List.length_nil]; omega), ?_⟩
      refine (congrArg (fun s => DV.v (.string s)) (ba_ext ?_) : _ = _)
      simp [tyT, headT, tx_app, tx_mk]
    have k4 : ¬ kind = 4 := of_decide_eq_false k4
    have hone : kind = 5 ∨ kind = 6 → ∃ p u us, ps = .cons p (.mk u us) .nil ∧ fineT (.mk u us) := by
      intro hk
      match ps, f5 hk, f6 with
      | .cons p (.mk u us) .nil, _, f6 =>
        simp only [fineP] at f6
        have hb : p.bare = false := by
          cases hb : p.bare
          · rfl
          · have := f6.2.2.1 hb; omega
        exact ⟨p, u, us, rfl, (f6.2.2.2.1 hb).2⟩
      | .cons p t (.cons q u r), h, _ => simp [Pts.len] at h
    refine br (fun k5 => ?_) (fun k5 => ?_)
    · have k5 : kind = 5 := of_decide_eq_true k5
      subst k5
      obtain ⟨p, u, us, rfl, hfu⟩ := hone (.inl rfl)
      have hlu := tyT_len hfu
      simp only [Pts.wt] at hn hbig
      refine drawG_i (fun _ => false) mo (by decide +kernel) ?_
      refine ⟨dPh p (dTy (.mk u us)), ⟨by omega, rfl⟩, ?_⟩
      refine callD_p (enters_of Tryz.func72 (by decide +kernel) rfl) (ih (.mk u us) (by omega) (by omega) hfu) (by repeat' (first | exact rfl | exact trivial | exact Or.inr (Or.inl ⟨_, rfl⟩) | exact Or.inr ⟨_, rfl⟩ | exact Or.inl ⟨rfl, rfl⟩ | exact Or.inl rfl | refine Or.inr ⟨_, _, rfl, Nat.zero_le _, rfl, ?_⟩ | refine ⟨_, _, rfl, ?_, ?_⟩ | refine ⟨_, rfl, ?_⟩ | refine Or.inr (Or.inr (Or.inr ⟨_, _, rfl, ?_⟩)) | exact Or.inl rfl | refine Or.inr ?_)) rfl ?_
      refine ⟨by (simp only [sz_app, sz_ba, List.length_cons, List.length_nil]; omega), ?_⟩
      refine ⟨by (simp only [sz_app, sz_ba, List.length_cons, List.length_nil]; omega), ?_⟩
      refine callD_p (enters_of Tryz.func126 (by decide +kernel) rfl) (put_spec most f3.1 f3.2) (by repeat' (first | exact rfl | exact trivial | exact Or.inr (Or.inl ⟨_, rfl⟩) | exact Or.inr ⟨_, rfl⟩ | exact Or.inl ⟨rfl, rfl⟩ | exact Or.inl rfl | refine Or.inr ⟨_, _, rfl, Nat.zero_le _, rfl, ?_⟩ | refine ⟨_, _, rfl, ?_, ?_⟩ | refine ⟨_, rfl, ?_⟩ | refine Or.inr (Or.inr (Or.inr ⟨_, _, rfl, ?_⟩)) | exact Or.inl rfl | refine Or.inr ?_)) rfl ?_
      refine ⟨by (simp only [sz_app, sz_ba, List.length_cons, List.length_nil]; omega), ?_⟩
      refine ⟨by (simp only [sz_app, sz_ba, List.length_cons, List.length_nil]; omega), ?_⟩
      refine (congrArg (fun s => DV.v (.string s)) (ba_ext ?_) : _ = _)
      simp [tyT.eq_1 ⟨5, at', lo, hi, most, names, name⟩, headT, firstT, tx_app, tx_mk, tx_putD]
    have k5 : ¬ kind = 5 := of_decide_eq_false k5
    refine br (fun k6 => ?_) (fun k6 => ?_)
    · have k6 : kind = 6 := of_decide_eq_true k6
      subst k6
      obtain ⟨p, u, us, rfl, hfu⟩ := hone (.inr rfl)
      have hlu := tyT_len hfu
      simp only [Pts.wt] at hn hbig
      refine ⟨dPh p (dTy (.mk u us)), ⟨by omega, rfl⟩, ?_⟩
      refine call_p (enters_of Tryz.func72 (by decide +kernel) rfl) (ih (.mk u us) (by omega) (by omega) hfu) (by repeat' (first | exact rfl | exact trivial | exact Or.inr (Or.inl ⟨_, rfl⟩) | exact Or.inr ⟨_, rfl⟩ | exact Or.inl ⟨rfl, rfl⟩ | exact Or.inl rfl | refine Or.inr ⟨_, _, rfl, Nat.zero_le _, rfl, ?_⟩ | refine ⟨_, _, rfl, ?_, ?_⟩ | refine ⟨_, rfl, ?_⟩ | refine Or.inr (Or.inr (Or.inr ⟨_, _, rfl, ?_⟩)) | exact Or.inl rfl | refine Or.inr ?_)) rfl ?_
      refine ⟨by (simp only [sz_app, sz_ba, List.length_cons, List.length_nil]; omega), ?_⟩
      refine ⟨by (simp only [sz_app, sz_ba, List.length_cons, List.length_nil]; omega), ?_⟩
      refine (congrArg (fun s => DV.v (.string s)) (ba_ext ?_) : _ = _)
      simp [tyT.eq_1 ⟨6, at', lo, hi, most, names, name⟩, headT, firstT, tx_app, tx_mk, tx_putD]
    have k6 : ¬ kind = 6 := of_decide_eq_false k6
    have hpt : ∀ (e : Nat) p t, ps.toList[e]? = some (p, t) → p.wt ≤ 1099511627776 ∧ I64 p.wide ∧ I64 p.cn ∧ (p.bare = true → kind = 8) ∧ (p.bare = false → 0 ≤ p.wide) ∧ (p.bare = false → (tyT t).length ≤ 1099511627776) ∧
        (p.bare = false → EvP Tryz.prog 72 [.agg (dTy t)] (.v (.string (ba (tyT t))))) := by
      intro e p t hx
      have hpw := Pts.wt_mem (List.mem_of_getElem? hx)
      obtain ⟨g1, g2, g3, g4⟩ := fineP_get f6 hx
      exact ⟨by omega, g1, g2, g3, fun hb => (g4 hb).1, fun hb => by have := tyT_len (g4 hb).2; omega, fun hb => ih t (by omega) (by omega) (g4 hb).2⟩
    refine br (fun k7 => ?_) (fun k7 => ?_)
    · have k7 : kind = 7 := of_decide_eq_true k7
      subst k7
      have jp := jp false
      have jq := jq false
      refine call_p (enters_of Tryz.func127 (by decide +kernel) rfl) (listP_spec 128 (enters_of Tryz.func128 (by decide +kernel) rfl) ps (ptsT false ps) (by omega) (ptsT_length ps) (by omega) (fun e p t hx => ⟨_, ptsT_get hx, by obtain ⟨g1, g2, g3, g4, g5, g6, g7⟩ := hpt e p t hx; have hb : p.bare = false := Bool.eq_false_iff.2 (fun hb => absurd (g4 hb) (by decide)); exact field_spec p t hb g1 g2 g3 (g5 hb) (g6 hb) (g7 hb)⟩)) (by repeat' (first | exact rfl | exact trivial | exact Or.inr (Or.inl ⟨_, rfl⟩) | exact Or.inr ⟨_, rfl⟩ | exact Or.inl ⟨rfl, rfl⟩ | exact Or.inl rfl | refine Or.inr ⟨_, _, rfl, Nat.zero_le _, rfl, ?_⟩ | refine ⟨_, _, rfl, ?_, ?_⟩ | refine ⟨_, rfl, ?_⟩ | refine Or.inr (Or.inr (Or.inr ⟨_, _, rfl, ?_⟩)) | exact Or.inl rfl | refine Or.inr ?_)) rfl ?_
      refine ⟨by (simp only [sz_app, sz_ba, List.length_cons, List.length_nil]; omega), ?_⟩
      refine ⟨by (simp only [sz_app, sz_ba, List.length_cons, List.length_nil]; omega), ?_⟩
      refine (congrArg (fun s => DV.v (.string s)) (ba_ext ?_) : _ = _)
      simp [tyT, headT, tx_app, tx_mk]
    have k7 : ¬ kind = 7 := of_decide_eq_false k7
    refine br (fun k8 => ?_) (fun k8 => ?_)
    · have k8 : kind = 8 := of_decide_eq_true k8
      subst k8
      have jp := jp true
      have jq := jq true
      refine call_p (enters_of Tryz.func127 (by decide +kernel) rfl) (listP_spec 129 (enters_of Tryz.func129 (by decide +kernel) rfl) ps (ptsT true ps) (by omega) (ptsT_length ps) (by omega) (fun e p t hx => ⟨_, ptsT_get hx, by obtain ⟨g1, g2, g3, g4, g5, g6, g7⟩ := hpt e p t hx; exact tag_spec p t g1 g2 g3 g5 g6 g7⟩)) (by repeat' (first | exact rfl | exact trivial | exact Or.inr (Or.inl ⟨_, rfl⟩) | exact Or.inr ⟨_, rfl⟩ | exact Or.inl ⟨rfl, rfl⟩ | exact Or.inl rfl | refine Or.inr ⟨_, _, rfl, Nat.zero_le _, rfl, ?_⟩ | refine ⟨_, _, rfl, ?_, ?_⟩ | refine ⟨_, rfl, ?_⟩ | refine Or.inr (Or.inr (Or.inr ⟨_, _, rfl, ?_⟩)) | exact Or.inl rfl | refine Or.inr ?_)) rfl ?_
      refine ⟨by (simp only [sz_app, sz_ba, List.length_cons, List.length_nil]; omega), ?_⟩
      refine ⟨by (simp only [sz_app, sz_ba, List.length_cons, List.length_nil]; omega), ?_⟩
      refine (congrArg (fun s => DV.v (.string s)) (ba_ext ?_) : _ = _)
      simp [tyT, headT, tx_app, tx_mk]
    have k8 : ¬ kind = 8 := of_decide_eq_false k8
    have k9 : kind = 9 := by omega
    subst k9
    refine ⟨by (simp only [sz_app, sz_ba, List.length_cons, List.length_nil]; omega), ?_⟩
    refine ⟨by (simp only [sz_app, sz_ba, List.length_cons, List.length_nil]; omega), ?_⟩
    refine (congrArg (fun s => DV.v (.string s)) (ba_ext ?_) : _ = _)
    simp [tyT, headT, tx_app, tx_mk]

/-- **unparse.kind: the type's text.** -/
theorem kind_spec (t : Ty) (hbig : t.wt ≤ 1099511627776) (hf : fineT t) : EvP Tryz.prog 72 [.agg (dTy t)] (.v (.string (ba (tyT t)))) := kind_any _ t (Nat.le_refl _) hbig hf
end Go.Proofs.YtmphiikdhifhjaaGreat
set_option maxRecDepth 100000
namespace Go.Proofs.YtmphiikdhifhjaaGreat
open Go Go.RowKit Dv Tryz

/-- A type's text, if nothing is wrong with it. -/
def typeT (t : Ty) : ByteArray := if (wrong t 1 0).1.1 = 0 then ba (tyT t) else ⟨#[]⟩

theorem utype_of (t : Ty) (hbig : t.wt ≤ 1099511627776) (hf : (wrong t 1 0).1.1 = 0 → fineT t)
    (hc : Ev Tryz.prog 125 [.loc 0 0, .agg (dTy t), .v (.int .i64 1)] [[.v (.int .i64 0)]] [] (ChkΦ t 1 0)) :
    EvP Tryz.prog 18 [.agg (dTy t)] (.v (.string (typeT t))) := by
  have hr := kright_of t hc
  have hk := fun h => kind_spec t hbig (hf h)
  have e0 : typeT t = if (wrong t 1 0).1.1 = 0 then ba (tyT t) else ⟨#[]⟩ := rfl
  obtain ⟨h, ps⟩ := t
  refine ev_go (P := Tryz.prog) tt tt_ok 5000 9 [.tmp 2] Tryz.func18 rfl Tryz.ntmps18 rfl (Nat.le_of_ble_eq_true rfl) (fun E9 w9 hn9 hm9 => ?_)
  refine call_p (enters_of Tryz.func71 (by decide +kernel) rfl) (hr) (by repeat' (first | exact rfl | exact trivial | exact Or.inr (Or.inl ⟨_, rfl⟩) | exact Or.inr ⟨_, rfl⟩ | exact Or.inl ⟨rfl, rfl⟩ | exact Or.inl rfl | refine Or.inr ⟨_, _, rfl, Nat.zero_le _, rfl, ?_⟩ | refine ⟨_, _, rfl, ?_, ?_⟩ | refine ⟨_, rfl, ?_⟩ | refine Or.inr (Or.inr (Or.inr ⟨_, _, rfl, ?_⟩)) | exact Or.inl rfl | refine Or.inr ?_)) rfl ?_
  refine br (fun hb => ?_) (fun hb => ?_)
  · have hb : ¬ (wrong (.mk h ps) 1 0).1.1 = 0 := by simpa using hb
    refine (congrArg (fun s => DV.v (.string s)) ?_ : _ = _)
    rw [e0, if_neg hb]
  · have hb : (wrong (.mk h ps) 1 0).1.1 = 0 := by simpa using hb
    refine call_p (enters_of Tryz.func72 (by decide +kernel) rfl) (hk hb) (by repeat' (first | exact rfl | exact trivial | exact Or.inr (Or.inl ⟨_, rfl⟩) | exact Or.inr ⟨_, rfl⟩ | exact Or.inl ⟨rfl, rfl⟩ | exact Or.inl rfl | refine Or.inr ⟨_, _, rfl, Nat.zero_le _, rfl, ?_⟩ | refine ⟨_, _, rfl, ?_, ?_⟩ | refine ⟨_, rfl, ?_⟩ | refine Or.inr (Or.inr (Or.inr ⟨_, _, rfl, ?_⟩)) | exact Or.inl rfl | refine Or.inr ?_)) rfl ?_
    refine (congrArg (fun s => DV.v (.string s)) ?_ : _ = _)
    rw [e0, if_pos hb]
end Go.Proofs.YtmphiikdhifhjaaGreat
set_option maxRecDepth 100000
namespace Go.Proofs.YtmphiikdhifhjaaGreat
open Go Go.RowKit Dv Tryz

mutual
/-- All numbers are ints. -/
def rngT : Ty → Prop
  | .mk h ps => I64 h.lo ∧ I64 h.hi ∧ I64 h.most ∧ rngP ps
def rngP : Pts → Prop
  | .nil => True
  | .cons p t r => I64 p.wide ∧ I64 p.cn ∧ rngT t ∧ rngP r
end

theorem own_len {h : Hd} {ps : Pts} (ho : ¬ ownB (.mk h ps) = false) : ps.len = 0 ∨ (5 ≤ h.kind ∧ h.kind ≤ 8) := by
  have h1 : ownF h ps = true := by
    rw [ownF_eq]
    cases hb : sameTy (.mk h ps) (mask (.mk h ps))
    · exact absurd hb ho
    · rfl
  unfold ownF at h1
  simp only [Bool.and_eq_true, Bool.or_eq_true, decide_eq_true_eq] at h1
  exact h1.1.1.2

mutual
theorem wrong_fine : ∀ (t : Ty) (depth m : Int), rngT t → (wrong t depth m).1.1 = 0 → fineT t
  | .mk h ps, depth, m, hr, he => by
    simp only [rngT] at hr
    obtain ⟨r1, r2, r3, r4⟩ := hr
    have i1 := wrongOne_fine h ps depth (m + 1) r4
    have i2 := wrongPts_fine h.kind (pNames ps) ps 0 depth (m + 1) r4
    simp only [wrong] at he
    by_cases c0 : 24 < depth
    · rw [if_pos c0] at he; simp at he
    rw [if_neg c0] at he
    by_cases c1 : 512 < m + 1
    · rw [if_pos c1] at he; simp at he
    rw [if_neg c1] at he
    by_cases c2 : h.kind < 1 ∨ 9 < h.kind
    · rw [if_pos c2] at he; simp at he
    rw [if_neg c2] at he
    by_cases c3 : ownB (.mk h ps) = false
    · rw [if_pos c3] at he; simp at he
    rw [if_neg c3] at he
    have ho := own_len c3
    by_cases c4 : (h.kind = 2 ∧ h.hi < h.lo) ∨ (h.kind = 3 ∧ (h.most < 0 ∨ 4096 < h.most))
    · rw [if_pos c4] at he; simp at he
    rw [if_neg c4] at he
    by_cases c5 : h.kind = 9 ∧ nameOK h.name.s = false
    · rw [if_pos c5] at he; simp at he
    rw [if_neg c5] at he
    have hnil : ¬ (5 ≤ h.kind ∧ h.kind ≤ 8) → fineP h.kind ps := by
      intro hk
      have : ps.len = 0 := ho.resolve_right hk
      cases ps with
      | nil => simp [fineP]
      | cons p t r => simp [Pts.len] at this
    simp only [fineT]
    refine ⟨r1, r2, r3, ⟨by omega, by omega⟩, ?_⟩
    by_cases k5 : h.kind = 5 ∨ h.kind = 6
    · rw [if_neg (by omega), if_pos k5] at he
      obtain ⟨j1, j2⟩ := i1 he
      exact ⟨fun _ => j1, j2 h.kind⟩
    · refine ⟨fun hk => absurd hk k5, ?_⟩
      by_cases k7 : h.kind = 7 ∨ h.kind = 8
      · rw [if_neg (by omega), if_neg k5, if_pos k7] at he
        by_cases d1 : h.kind = 8 ∧ ps.len = 0
        · rw [if_pos d1] at he; simp at he
        rw [if_neg d1] at he
        by_cases d2 : 64 < ps.len
        · rw [if_pos d2] at he; simp at he
        rw [if_neg d2] at he
        exact i2 k7 he
      · exact hnil (by omega)
theorem wrongOne_fine : ∀ (h : Hd) (ps : Pts) (depth m : Int), rngP ps → (wrongOne h ps depth m).1.1 = 0 → ps.len = 1 ∧ ∀ k : Int, fineP k ps
  | h, .cons p t .nil, depth, m, hr, he => by
    simp only [rngP] at hr
    have i := wrong_fine t (depth + 1) m hr.2.2.1
    simp only [wrongOne] at he
    by_cases c0 : p.name.s ≠ emptyB ∨ plainP p zeroPh = false
    · rw [if_pos c0] at he; simp at he
    rw [if_neg c0] at he
    by_cases c1 : h.most < 0 ∨ 1024 < h.most
    · rw [if_pos c1] at he; simp at he
    rw [if_neg c1] at he
    have hp : plainP p zeroPh = true := by
      cases hb : plainP p zeroPh
      · exact absurd (.inr hb) c0
      · rfl
    simp only [plainP, zeroPh, Bool.and_eq_true, decide_eq_true_eq, beq_iff_eq] at hp
    refine ⟨rfl, fun k => ?_⟩
    simp only [fineP]
    have hbare : p.bare = false := hp.1.1.1.1.1
    have hwide : p.wide = 0 := of_decide_eq_true hp.1.1.1.1.2
    exact ⟨hr.1, hr.2.1, fun hb => (by rw [hbare] at hb; cases hb), fun _ => ⟨by omega, i he⟩, trivial⟩
  | h, .nil, depth, m, hr, he => by simp [wrongOne] at he
  | h, .cons p t (.cons q u r), depth, m, hr, he => by simp [wrongOne] at he
theorem wrongPts_fine : ∀ (kind : Int) (all : List Wd) (ps : Pts) (i : Nat) (depth m : Int), rngP ps → (kind = 7 ∨ kind = 8) → (wrongPts kind all i ps depth m).1.1 = 0 → fineP kind ps
  | kind, all, .nil, i, depth, m, hr, hk, he => by simp [fineP]
  | kind, all, .cons p t r, i, depth, m, hr, hk, he => by
    simp only [rngP] at hr
    have i1 := wrong_fine t (depth + 1) m hr.2.2.1
    have i2 := fun m' => wrongPts_fine kind all r (i + 1) depth m' hr.2.2.2 hk
    simp only [wrongPts] at he
    simp only [fineP]
    by_cases c0 : listedF all i p.name ≠ 0
    · rw [if_pos c0] at he; exact absurd he c0
    rw [if_neg c0] at he
    by_cases c1 : p.bare = true
    · rw [if_pos c1] at he
      by_cases c2 : kind = 7 ∨ sameTy t zeroTy = false ∨ plainP p barePh = false
      · rw [if_pos c2] at he; simp at he
      rw [if_neg c2] at he
      exact ⟨hr.1, hr.2.1, fun _ => by omega, fun hb => by (rw [c1] at hb; cases hb), i2 _ he⟩
    · rw [if_neg c1] at he
      by_cases c2 : (partWd p).1 ≠ 0
      · rw [if_pos c2] at he; exact absurd he c2
      rw [if_neg c2] at he
      by_cases c3 : (wrong t (depth + 1) m).1.1 ≠ 0
      · rw [if_pos c3] at he; exact absurd he c3
      rw [if_neg c3] at he
      have hw : ¬ (p.wide < 0 ∨ 64 < p.wide) := fun hc => c2 (by simp [partWd, hc])
      exact ⟨hr.1, hr.2.1, fun hb => absurd hb c1, fun _ => ⟨by omega, i1 (by omega)⟩, i2 _ he⟩
end
end Go.Proofs.YtmphiikdhifhjaaGreat
namespace Go.Proofs.YtmphiikdhifhjaaGreat
namespace Dv
open Go Go.RowKit

/-- What the cells of a type are, as data. -/
def TypFs (f : TypeId → List DV → Prop) : List TypeId → List DV → Prop
  | [], ds => ds = []
  | t :: r, ds => ∃ a b, ds = a ++ b ∧ f t a ∧ TypFs f r b
def Typ (P : Program) : Nat → TypeId → List DV → Prop
  | 0, _, _ => False
  | n + 1, t, ds =>
    match P.underlying t with
    | some .bool => ∃ b, ds = [.v (.bool b)]
    | some (.int k) => ∃ z, ds = [.v (.int k z)] ∧ (Lit.int k z).wf = true
    | some .string => ∃ s : ByteArray, ds = [.v (.string s)]
    | some (.slice e) => ∃ es, ds = [.sl (P.cellsOf e) es none] ∧ ∀ cs ∈ es, Typ P n e cs
    | some (.struct fs) => TypFs (Typ P n) (fs.toList.map (·.type)) ds
    | _ => False

mutual
/-- A datum's weight. -/
def wgD : DV → Nat
  | .v (.string s) => s.size + 64
  | .sl _ es _ => 64 + wgEs es
  | _ => 64
def wgL : List DV → Nat
  | [] => 0
  | d :: r => wgD d + wgL r
def wgEs : List (List DV) → Nat
  | [] => 0
  | cs :: r => wgL cs + wgEs r
end

theorem wgL_append : ∀ a b : List DV, wgL (a ++ b) = wgL a + wgL b
  | [], b => by simp [wgL]
  | d :: r, b => by simp only [List.cons_append, wgL, wgL_append r b]; omega

/-- The fields of a struct lie one behind the other, and are of types of S. -/
def laidF (P : Program) (S : List TypeId) : Nat → List Field → Nat → Bool
  | off, [], n => decide (off = n)
  | off, f :: r, n => decide (f.offset = off) && S.contains f.type && laidF P S (off + P.cellsOf f.type) r n
def flatOK (P : Program) (S : List TypeId) (t : TypeId) : Bool :=
  match P.underlying t with
  | some .bool => decide (P.cellsOf t = 1)
  | some (.int _) => decide (P.cellsOf t = 1)
  | some .string => decide (P.cellsOf t = 1)
  | some (.slice e) => decide (P.cellsOf t = 1) && S.contains e && decide (0 < P.cellsOf e)
  | some (.struct fs) => laidF P S 0 fs.toList (P.cellsOf t)
  | _ => false

/-- A measure of what is read. -/
def bkS {H : Type} (bk : DataW H → Nat) : List (DataW H) → Nat
  | [] => 0
  | d :: r => bk d + bkS bk r
structure Bk {H : Type} (bk : DataW H → Nat) : Prop where
  str : ∀ l : List UInt8, l.length + 1 ≤ bk (.lit (.string l))
  lit : ∀ l, 1 ≤ bk (.lit l)
  nil : 1 ≤ bk .nil
  slice : ∀ es sp, 1 + bkS bk es ≤ bk (.slice es sp)
  agg : ∀ l, bkS bk l ≤ bk (.agg l)

/-- All of memory is known. -/
def enW (w : World) : En := ⟨fun a => w.cell? a, [], [], []⟩
theorem enW_env (w : World) : Env (enW w) [] w where
  len := rfl
  tl := rfl
  bxs := by simp
  inj := List.nodup_nil
  sub := fun x u hx => hx
  pc := by simp [enW]
  tks := by simp [enW]
  tkd := by simp [enW]

theorem cell_spot {w : World} {a : Addr} {k : Nat} {v : Value} (h : w.cell? (a.add k) = some v) : w.cell? ⟨a.block, a.off + k, none⟩ = some v := by
  unfold Addr.add at h
  split at h
  · rename_i hk
    subst hk
    unfold World.cell? at h ⊢
    split at h
    · rename_i c e z he
      split at h
      · cases h
      · simpa [he] using h
    · cases h
  · exact h
theorem spot_none {w : World} {a : Addr} {v : Value} (h : w.cell? a = some v) : a.spot = none := by
  unfold World.cell? at h
  split at h
  · split at h
    · cases h
    · rename_i hs; simpa using hs
  · cases h

theorem rvAt_cells {E : En} {b : Nat} : ∀ {p : Nat} {ds : List DV} {vs : List Value}, RvL E.cl ds vs → (∀ (j : Nat) v, vs[j]? = some v → E.c ⟨b, p + j, none⟩ = some v ∧ v.oneCell' = true) → RvAt E.cl b p ds
  | p, [], vs, h, hc => by simp only [RvAt]
  | p, d :: r, vs, h, hc => by
    simp only [RvL] at h
    obtain ⟨v, s, rfl, h1, h2⟩ := h
    simp only [RvAt]
    obtain ⟨c1, c2⟩ := hc 0 v rfl
    refine ⟨⟨v, c1, c2, h1⟩, rvAt_cells (p := p + 1) h2 fun j u hj => ?_⟩
    have := hc (j + 1) u hj
    rw [show p + 1 + j = p + (j + 1) by omega]
    exact this

section
variable {H : Type} {enc : TypeId × Value → H} {P : Program} {w : World} {sp : Nat → Bool} {held : Bool} {S : List TypeId} {bk : DataW H → Nat}

/-- What is read of some cells. -/
def Rd (enc : TypeId × Value → H) (P : Program) (w : World) (bk : DataW H → Nat) (n : Nat) (t : TypeId) (cs : List Value) (d : DataW H) : Prop :=
  ∃ ds, RvL (enW w) ds cs ∧ (∀ v ∈ cs, v.oneCell' = true) ∧ Typ P n t ds ∧ wgL ds ≤ 64 * bk d ∧ cs.length = P.cellsOf t

theorem rd_fields {n : Nat} (ih : ∀ t cs x, t ∈ S → DataW.trod enc P w 0 sp held n t cs = some x → Rd enc P w bk n t cs x.1) (cs : List Value) :
    ∀ (fs : List Field) (off : Nat) (xs : List (DataW H × List MemPlace)), laidF P S off fs cs.length = true → xs.length = fs.length →
      (∀ (i : Nat) f, fs[i]? = some f → DataW.trod enc P w 0 sp held n f.type ((cs.drop f.offset).take (P.cellsOf f.type)) = xs[i]?) →
      ∃ ds, RvL (enW w) ds (cs.drop off) ∧ (∀ v ∈ cs.drop off, v.oneCell' = true) ∧ TypFs (Typ P n) (fs.map (·.type)) ds ∧ wgL ds ≤ 64 * bkS bk (xs.map (·.1))
  | [], off, xs, hl, hxl, hx => by
    simp only [laidF, decide_eq_true_eq] at hl
    subst hl
    simp only [List.length_nil, List.length_eq_zero_iff] at hxl
    subst hxl
    exact ⟨[], by simpa using rvL_nil _, by simp, by simp [TypFs], by simp [wgL]⟩
  | f :: r, off, xs, hl, hxl, hx => by
    simp only [laidF, Bool.and_eq_true, decide_eq_true_eq] at hl
    obtain ⟨⟨hof, hS⟩, hl⟩ := hl
    match xs, hxl with
    | x :: xs, hxl =>
      have h0 := hx 0 f rfl
      rw [hof] at h0
      simp only [List.getElem?_cons_zero] at h0
      obtain ⟨ds0, r1, r2, r3, r4, r5⟩ := ih f.type _ x (by simpa using hS) h0
      obtain ⟨ds1, s1, s2, s3, s4⟩ := rd_fields ih cs r (off + P.cellsOf f.type) xs hl (by simpa using hxl) (fun i g hg => by simpa using hx (i + 1) g (by simpa using hg))
      have hsplit : cs.drop off = (cs.drop off).take (P.cellsOf f.type) ++ cs.drop (off + P.cellsOf f.type) := by
        rw [← List.drop_drop, List.take_append_drop]
      refine ⟨ds0 ++ ds1, ?_, ?_, ?_, ?_⟩
      · rw [hsplit]; exact RvL.append r1 s1
      · rw [hsplit]
        intro v hv
        rcases List.mem_append.1 hv with hv | hv
        · exact r2 v hv
        · exact s2 v hv
      · simp only [List.map_cons, TypFs]
        exact ⟨ds0, ds1, rfl, r3, s3⟩
      · rw [wgL_append]
        simp only [List.map_cons, bkS]
        omega

theorem rd_elems {n e : Nat} (ih : ∀ t cs x, t ∈ S → DataW.trod enc P w 0 sp held n t cs = some x → Rd enc P w bk n t cs x.1) (he : e ∈ S) (a : Addr) :
    ∀ (xs : List (DataW H × List MemPlace)) (i0 : Nat), (∀ i, i < xs.length → (w.cells? 0 (a.add ((i0 + i) * P.cellsOf e)) (P.cellsOf e)).bind (DataW.trod enc P w 0 sp held n e) = xs[i]?) →
      ∃ es, es.length = xs.length ∧ RvEs (enW w) (P.cellsOf e) a.block (a.off + i0 * P.cellsOf e) es ∧ (∀ cs ∈ es, Typ P n e cs) ∧ wgEs es ≤ 64 * bkS bk (xs.map (·.1))
  | [], i0, hx => ⟨[], rfl, by simp only [RvEs], by simp, by simp [wgEs]⟩
  | x :: xs, i0, hx => by
    have h0 := hx 0 (by simp)
    simp only [Nat.add_zero, List.getElem?_cons_zero] at h0
    obtain ⟨cs, hcs, ht⟩ := Option.bind_eq_some_iff.1 h0
    obtain ⟨_, hlen, hcell⟩ := World.cells?_some hcs
    obtain ⟨ds0, r1, r2, r3, r4, r5⟩ := ih e cs x he ht
    obtain ⟨es, s1, s2, s3, s4⟩ := rd_elems ih he a xs (i0 + 1) (fun i hi => by
      have := hx (i + 1) (by simpa using hi)
      simp only [List.getElem?_cons_succ] at this
      rw [show i0 + 1 + i = i0 + (i + 1) by omega]
      exact this)
    refine ⟨ds0 :: es, by simp [s1], ?_, ?_, ?_⟩
    · simp only [RvEs]
      refine ⟨by rw [← r1.length, hlen], rvAt_cells (E := enW w) r1 fun j v hj => ⟨?_, r2 v (List.mem_of_getElem? hj)⟩, ?_⟩
      · have hjl : j < P.cellsOf e := by rw [← hlen]; exact (List.getElem?_eq_some_iff.1 hj).1
        have h1 := hcell j hjl
        rw [hj, Deep.add_add] at h1
        have h2 := cell_spot h1
        show w.cell? _ = _
        rw [Nat.add_assoc]
        exact h2
      · rw [Nat.add_assoc, show i0 * P.cellsOf e + P.cellsOf e = (i0 + 1) * P.cellsOf e by rw [Nat.add_mul, Nat.one_mul]]
        exact s2
    · intro cs' hc
      rcases List.mem_cons.1 hc with hc | hc
      · subst hc; exact r3
      · exact s3 cs' hc
    · simp only [wgEs, List.map_cons, bkS]
      omega

theorem rd_trod (hbk : Bk bk) (hS : ∀ t ∈ S, flatOK P S t = true) : ∀ (n : Nat) (t : TypeId) (cs : List Value) (x : DataW H × List MemPlace), t ∈ S → DataW.trod enc P w 0 sp held n t cs = some x → Rd enc P w bk n t cs x.1
  | 0, t, cs, x, _, h => by simp [DataW.trod] at h
  | n + 1, t, cs, x, ht, h => by
    have hf := hS t ht
    unfold flatOK at hf
    unfold Rd
    cases hu : P.underlying t with
    | none => rw [hu] at hf; cases hf
    | some D =>
      rw [hu] at hf
      cases D with
      | bool =>
        simp only [decide_eq_true_eq] at hf
        obtain ⟨b, rfl, rfl⟩ := DataW.trod_bool hu h
        have := hbk.lit (.bool b)
        exact ⟨[.v (.bool b)], rvL_one (by unfold Rv; exact ⟨rfl, rfl⟩), by simp [Value.oneCell'], by simp only [Typ, hu]; exact ⟨b, rfl⟩, by simp only [wgL, wgD]; omega, by simp [hf]⟩
      | int k =>
        simp only [decide_eq_true_eq] at hf
        obtain ⟨z, rfl, rfl, hw⟩ := DataW.trod_int hu h
        have := hbk.lit (.int k z)
        exact ⟨[.v (.int k z)], rvL_one (by unfold Rv; exact ⟨rfl, rfl⟩), by simp [Value.oneCell'], by simp only [Typ, hu]; exact ⟨z, rfl, hw⟩, by simp only [wgL, wgD]; omega, by simp [hf]⟩
      | string =>
        simp only [decide_eq_true_eq] at hf
        obtain ⟨s, rfl, rfl, hw⟩ := DataW.trod_string hu h
        have := hbk.str s.data.toList
        have hsz : s.data.toList.length = s.size := by rw [Array.length_toList]; rfl
        exact ⟨[.v (.string s)], rvL_one (by unfold Rv; exact ⟨rfl, rfl⟩), by simp [Value.oneCell'], by simp only [Typ, hu]; exact ⟨s, rfl⟩, by simp only [wgL, wgD]; omega, by simp [hf]⟩
      | slice e =>
        simp only [Bool.and_eq_true, decide_eq_true_eq] at hf
        obtain ⟨⟨hf1, hf2⟩, hf3⟩ := hf
        rcases DataW.trod_slice hu h with ⟨rfl, rfl⟩ | ⟨a, len, cap, elems, rest, m, hm, rfl, rfl, _, hlc, _, hel, hx, _, _⟩
        · have := hbk.nil
          refine ⟨[.sl (P.cellsOf e) [] none], rvL_one ?_, by simp [Value.oneCell'], by simp only [Typ, hu]; exact ⟨[], rfl, by simp⟩, by simp only [wgL, wgD, wgEs]; omega, by simp [hf1]⟩
          unfold Rv
          exact ⟨none, 0, 0, rfl, ⟨rfl, Nat.le_refl _⟩, fun hc => absurd rfl hc, fun k hk => by cases hk⟩
        · simp only [Nat.add_right_cancel_iff] at hm
          subst hm
          obtain ⟨es, s1, s2, s3, s4⟩ := rd_elems (fun t cs x => rd_trod hbk hS n t cs x) (by simpa using hf2) a elems 0 (fun i hi => by simpa using hx i (by omega))
          have hb := hbk.slice (elems.map (·.1)) (rest.map (·.1))
          refine ⟨[.sl (P.cellsOf e) es none], rvL_one ?_, by simp [Value.oneCell'], by simp only [Typ, hu]; exact ⟨es, rfl, s3⟩, by simp only [wgL, wgD]; omega, by simp [hf1]⟩
          unfold Rv
          refine ⟨some a, len, cap, rfl, ⟨by omega, hlc⟩, fun hne => ⟨?_, ?_⟩, fun k hk => by cases hk⟩
          · have hpos : 0 < len := by
              rw [← hel, ← s1]
              exact List.length_pos_iff.2 hne
            have h0 := hx 0 hpos
            rw [List.getElem?_eq_getElem (by omega)] at h0
            obtain ⟨cs, hcs, _⟩ := Option.bind_eq_some_iff.1 h0
            obtain ⟨_, hlen, hcell⟩ := World.cells?_some hcs
            have h1 := hcell 0 hf3
            rw [List.getElem?_eq_getElem (by omega), Deep.add_add] at h1
            simp only [Nat.zero_mul, Nat.add_zero] at h1
            exact spot_none (a := a) h1
          · have s2' : RvEs (enW w) (P.cellsOf e) a.block a.off es := by simpa using s2
            exact s2'
      | struct fs =>
        obtain ⟨xs, m, hm, rfl, hlen, hxl, hx⟩ := DataW.trod_struct hu h
        simp only [Nat.add_right_cancel_iff] at hm
        subst hm
        simp only at hf
        obtain ⟨ds, s1, s2, s3, s4⟩ := rd_fields (fun t cs x => rd_trod hbk hS n t cs x) cs fs.toList 0 xs (by rw [hlen]; exact hf) (by simpa using hxl) (fun i f hi => hx i f (by simpa using hi))
        have hb := hbk.agg (xs.map (·.1))
        refine ⟨ds, by simpa using s1, by simpa using s2, by simp only [Typ, hu]; exact s3, by simp only; omega, hlen⟩
      | _ => cases hf
end

/-! ### What is known of a type's data -/
theorem typ_int {P : Program} {n : Nat} {t : TypeId} {k : IntKind} {ds : List DV} (hu : P.underlying t = some (.int k)) (h : Typ P n t ds) : ∃ z, ds = [.v (.int k z)] ∧ (Lit.int k z).wf = true := by
  cases n with
  | zero => exact h.elim
  | succ n => simp only [Typ, hu] at h; exact h
theorem typ_bool {P : Program} {n : Nat} {t : TypeId} {ds : List DV} (hu : P.underlying t = some .bool) (h : Typ P n t ds) : ∃ b, ds = [.v (.bool b)] := by
  cases n with
  | zero => exact h.elim
  | succ n => simp only [Typ, hu] at h; exact h
theorem typ_str {P : Program} {n : Nat} {t : TypeId} {ds : List DV} (hu : P.underlying t = some .string) (h : Typ P n t ds) : ∃ s : ByteArray, ds = [.v (.string s)] := by
  cases n with
  | zero => exact h.elim
  | succ n => simp only [Typ, hu] at h; exact h
theorem typ_sl {P : Program} {n : Nat} {t e : TypeId} {ds : List DV} (hu : P.underlying t = some (.slice e)) (h : Typ P n t ds) : ∃ m es, n = m + 1 ∧ ds = [.sl (P.cellsOf e) es none] ∧ ∀ cs ∈ es, Typ P m e cs := by
  cases n with
  | zero => exact h.elim
  | succ n =>
    simp only [Typ, hu] at h
    obtain ⟨es, h1, h2⟩ := h
    exact ⟨n, es, rfl, h1, h2⟩
theorem typ_st {P : Program} {n : Nat} {t : TypeId} {fs : Array Field} {ds : List DV} (hu : P.underlying t = some (.struct fs)) (h : Typ P n t ds) : ∃ m, n = m + 1 ∧ TypFs (Typ P m) (fs.toList.map (·.type)) ds := by
  cases n with
  | zero => exact h.elim
  | succ n =>
    simp only [Typ, hu] at h
    exact ⟨n, rfl, h⟩
theorem wf_i64 {z : Int} (h : (Lit.int .i64 z).wf = true) : -9223372036854775808 ≤ z ∧ z ≤ 9223372036854775807 := by
  simpa [Lit.wf, IntKind.min, IntKind.max, IntKind.signed, IntKind.bits] using h
end Dv
end Go.Proofs.YtmphiikdhifhjaaGreat
set_option maxRecDepth 100000
namespace Go.Proofs.YtmphiikdhifhjaaGreat
open Go Go.RowKit Dv Tryz

theorem cells_word : Tryz.prog.cellsOf 25 = 2 := by kernel_rfl
theorem cells_part : Tryz.prog.cellsOf 109 = 18 := by kernel_rfl

theorem typ_wd {n : Nat} {ds : List DV} (h : Typ Tryz.prog n 25 ds) : ∃ w : Wd, ds = dWd w ∧ w.wt ≤ wgL ds := by
  obtain ⟨m, _, hf⟩ := typ_st Tryz.underlying25 h
  obtain ⟨a, b, rfl, h1, c, d, rfl, h2, rfl⟩ := hf
  obtain ⟨s, rfl⟩ := typ_str Tryz.underlying9 h1
  obtain ⟨z, rfl, _⟩ := typ_int Tryz.underlying3 h2
  exact ⟨⟨s, z⟩, rfl, by simp [wgL, wgD, Wd.wt]⟩

theorem es_wds : ∀ {m : Nat} {es : List (List DV)}, (∀ cs ∈ es, Typ Tryz.prog m 25 cs) → ∃ l : List Wd, es = dWds l ∧ wdsWt l ≤ wgEs es
  | m, [], h => ⟨[], rfl, by simp [wdsWt, wgEs]⟩
  | m, cs :: r, h => by
    obtain ⟨w, rfl, hw⟩ := typ_wd (h cs (by simp))
    obtain ⟨l, rfl, hl⟩ := es_wds (m := m) (es := r) (fun c hc => h c (List.mem_cons_of_mem _ hc))
    exact ⟨w :: l, rfl, by simp only [wdsWt, wgEs]; omega⟩

theorem typ_wds {n : Nat} {ds : List DV} (h : Typ Tryz.prog n 22 ds) : ∃ l : List Wd, ds = [.sl 2 (dWds l) none] ∧ 64 + wdsWt l ≤ wgL ds := by
  obtain ⟨m, es, _, rfl, he⟩ := typ_sl Tryz.underlying22 h
  obtain ⟨l, rfl, hl⟩ := es_wds he
  rw [cells_word]
  exact ⟨l, rfl, by simp only [wgL, wgD]; omega⟩

theorem typ_i {n : Nat} {ds : List DV} (h : Typ Tryz.prog n 3 ds) : ∃ z, ds = [.v (.int .i64 z)] ∧ I64 z := by
  obtain ⟨z, rfl, hw⟩ := typ_int Tryz.underlying3 h
  exact ⟨z, rfl, wf_i64 hw⟩

theorem es_pts {m : Nat} (ih : ∀ k, k < m → ∀ ds, Typ Tryz.prog k 27 ds → ∃ t : Ty, ds = dTy t ∧ rngT t ∧ t.wt ≤ wgL ds) :
    ∀ {es : List (List DV)}, (∀ cs ∈ es, Typ Tryz.prog m 109 cs) → ∃ ps : Pts, es = dPts ps ∧ rngP ps ∧ ps.wt ≤ wgEs es
  | [], h => ⟨.nil, by simp [dPts], by simp [rngP], by simp [Pts.wt]⟩
  | cs :: r, h => by
    obtain ⟨ps, rfl, hr, hl⟩ := es_pts ih (es := r) (fun c hc => h c (List.mem_cons_of_mem _ hc))
    obtain ⟨k, rfl, hf⟩ := typ_st Tryz.underlying109 (h cs (by simp))
    obtain ⟨a1, b1, rfl, h1, a2, b2, rfl, h2, a3, b3, rfl, h3, a4, b4, rfl, h4, a5, b5, rfl, h5, a6, b6, rfl, h6, rfl⟩ := hf
    obtain ⟨nm, rfl, w1⟩ := typ_wd h1
    obtain ⟨bare, rfl⟩ := typ_bool Tryz.underlying4 h2
    obtain ⟨lab, rfl, w3⟩ := typ_wds h3
    obtain ⟨wide, rfl, r4⟩ := typ_i h4
    obtain ⟨k5, _, hf5⟩ := typ_st Tryz.underlying107 h5
    obtain ⟨c1, d1, rfl, g1, c2, d2, rfl, g2, c3, d3, rfl, g3, c4, d4, rfl, g4, rfl⟩ := hf5
    obtain ⟨ck, rfl, _⟩ := typ_i g1
    obtain ⟨cn, rfl, q2⟩ := typ_i g2
    obtain ⟨ca, rfl, _⟩ := typ_i g3
    obtain ⟨cl, rfl, w5⟩ := typ_wds g4
    obtain ⟨t, rfl, rt, wt⟩ := ih k (by omega) _ h6
    refine ⟨.cons ⟨nm, bare, lab, wide, ck, cn, ca, cl⟩ t ps, ?_, by simp only [rngP]; exact ⟨r4, q2, rt, hr⟩, ?_⟩
    · simp only [dPts, dPh, dWd, List.cons_append, List.nil_append, List.append_nil]
    · simp only [Pts.wt, Ph.wt, wgEs, wgL_append, wgL, wgD, dWd] at *
      simp only [Wd.wt] at *
      omega

theorem typ_ty : ∀ (n : Nat) (ds : List DV), Typ Tryz.prog n 27 ds → ∃ t : Ty, ds = dTy t ∧ rngT t ∧ t.wt ≤ wgL ds := by
  intro n
  induction n using Nat.strongRecOn with
  | _ n ih =>
    intro ds h
    obtain ⟨m, rfl, hf⟩ := typ_st Tryz.underlying27 h
    obtain ⟨a1, b1, rfl, h1, a2, b2, rfl, h2, a3, b3, rfl, h3, a4, b4, rfl, h4, a5, b5, rfl, h5, a6, b6, rfl, h6, a7, b7, rfl, h7, a8, b8, rfl, h8, rfl⟩ := hf
    obtain ⟨kind, rfl, _⟩ := typ_i h1
    obtain ⟨at', rfl, _⟩ := typ_i h2
    obtain ⟨lo, rfl, r3⟩ := typ_i h3
    obtain ⟨hi, rfl, r4⟩ := typ_i h4
    obtain ⟨most, rfl, r5⟩ := typ_i h5
    obtain ⟨names, rfl, w6⟩ := typ_wds h6
    obtain ⟨k, es, rfl, rfl, hes⟩ := typ_sl Tryz.underlying23 h7
    obtain ⟨ps, rfl, rp, wp⟩ := es_pts (fun j hj => ih j (by omega)) hes
    obtain ⟨nm, rfl, w8⟩ := typ_wd h8
    rw [cells_part]
    refine ⟨.mk ⟨kind, at', lo, hi, most, names, nm⟩ ps, ?_, by simp only [rngT]; exact ⟨r3, r4, r5, rp⟩, ?_⟩
    · simp only [dTy, dWd, List.cons_append, List.nil_append, List.append_nil]
    · simp only [Ty.wt, Hd.wt, wgL_append, wgL, wgD, dWd] at *
      simp only [Wd.wt] at *
      omega
end Go.Proofs.YtmphiikdhifhjaaGreat
namespace Go.Proofs.YtmphiikdhifhjaaGreat
namespace Dv
open Go Go.RowKit Go.ChangeShapes Go.WideShapes Go.ChangeAt
open Go.ChangeMaps (open_string shut_string)

section
variable {H : Type} {enc : TypeId × Value → H} {P : Program}

theorem trodAll_stays (hl : laidOutB P = true) {W W' : World} (hb : Below W.heap.size W W') : ∀ {ts : List TypeId} {vs : List Value} {ds : List (DataW H)} {ps : List MemPlace}, (∀ t ∈ ts, P.readableRec t = true ∧ t < P.types.size) →
    DataW.TrodAll enc P W 0 (fun _ => true) true ts vs ds ps → (∀ x ∈ ps, x.block < W.heap.size) → DataW.TrodAll enc P W' 0 (fun b => decide (b < W.heap.size)) true ts vs ds ps
  | [], [], [], _, _, h, _ => h
  | t :: ts, v :: vs, d :: ds, _, ht, ⟨p, q, h1, h2, e⟩, hlt => by
    subst e
    obtain ⟨r1, r2⟩ := ht t (by simp)
    exact ⟨p, q, Below.trod hl r1 r2 h1 hb (fun x hx => hlt x (List.mem_append_left _ hx)), trodAll_stays hl hb (fun t ht' => ht t (by simp [ht'])) h2 (fun x hx => hlt x (List.mem_append_right _ hx)), rfl⟩

/-- **What is asked behind the call of a law that returned true**, where nothing that was there has turned. -/
theorem law_post {f : Func} {s : ChangeSpec} {tb : TypeId} (hl : laidOutB P = true) (hres : f.resultTypes = #[tb]) (htb : P.underlying tb = some .bool) (hv : s.vars = []) (hts : ∀ t ∈ f.params.toList, P.readableRec t = true ∧ t < P.types.size)
    {W W' : World} {args : Array Value} {ds gs : List (DataW H)} {before : List MemPlace} (hW : DataW.Whole enc P f.params.toList s.vars false W args.toList ds gs before) (hfn : s.fn H ds = { results := [.lit (.bool true)], args := ds }) (hb : Below W.heap.size W W') :
    s.post enc P f false true false false W args (.bool true) W' := by
  have hW' := hW
  obtain ⟨p, q, hA, hV, rfl, hfz, hnd⟩ := hW
  rw [hv] at hV
  obtain ⟨rfl, rfl⟩ := trodVars_none hV
  refine ⟨ds, [], p ++ [], [], p, [], hW', ?_, ?_, ?_, hb.frame _, fun h => by cases h⟩
  · rw [List.append_nil, hfn, hres]
    exact trodAll_cons_mk (shut_bool htb _) trodAll_mk0
  · rw [List.append_nil, hfn]
    exact trodAll_stays hl hb hts hA (fun x hx => hW'.lt x (List.mem_append_left _ hx))
  · rw [List.append_nil, hfn, hv]
    rfl

/-- What was there stays. -/
theorem endd_below {w w' : World} {Φ : DV → List (List DV) → List TkE → Prop} {v : Value} (h : Endd false (enW w) w Φ v w') : Below w.heap.size w w' := by
  obtain ⟨hm, _⟩ := h
  refine ⟨hm.os, hm.tape, hm.output, hm.size, fun k hk => hm.block k hk ?_⟩
  rintro (h1 | ⟨y, h1, _⟩)
  · simp [enW] at h1
  · simp [enW] at h1

theorem calls_law {f : FuncId} {args : List DV} {vs : List Value} {w : World} (h : EvP P f args (.v (.bool true))) (hv : RvL (enW w) args vs) :
    Calls P f vs.toArray w fun e w' => e = .returned (.bool true) ∧ Below w.heap.size w w' := by
  refine (h (enW w) w vs (enW_env w) rfl hv).mono ?_
  rintro e w' ⟨v, rfl, he⟩
  have hb := endd_below he
  obtain ⟨_, _, d, os, E, _, _, _, _, hr, rfl⟩ := he
  unfold Rv at hr
  rw [hr.1]
  exact ⟨rfl, hb⟩

variable {W : World} {base : Nat} {S : List TypeId} {bk : DataW H → Nat}

/-- A struct that came in. -/
theorem arg_st (hbk : Bk bk) (hS : ∀ t ∈ S, flatOK P S t = true) {t : TypeId} {fs : Array Field} {v : Value} {d : DataW H} {ps : List MemPlace} (ht : t ∈ S) (hu : P.underlying t = some (.struct fs))
    (hval : Value.okWide P W .any base t v) (h : DataW.Trod enc P W 0 (fun _ => true) true t v d ps) : ∃ n ds, Rv (enW W) (.agg ds) v ∧ Typ P n t ds ∧ wgL ds ≤ 64 * bk d := by
  unfold Value.okWide at hval
  rw [hu] at hval
  obtain ⟨cs, rfl, _, _⟩ := hval
  obtain ⟨n, hn⟩ := h
  obtain ⟨ds, h1, h2, h3, h4, _⟩ := rd_trod hbk hS n t _ _ ht hn
  refine ⟨n, ds, ?_, h3, h4⟩
  unfold Rv
  exact ⟨cs.toList, by simp, h1, h2⟩
end
end Dv
end Go.Proofs.YtmphiikdhifhjaaGreat
namespace Go.Proofs.YtmphiikdhifhjaaGreat
open Go Go.RowKit Dv

theorem bk_all {H : Type} : ∀ l : List (DataW H), bkS Rows.uptoBulk l = Rows.uptoBulkAll l
  | [] => by simp [bkS, Rows.uptoBulkAll]
  | d :: r => by simp only [bkS, Rows.uptoBulkAll, bk_all r]
theorem bk_ok {H : Type} : Bk (Rows.uptoBulk (H := H)) where
  str := fun l => by simp [Rows.uptoBulk]
  lit := fun l => by cases l <;> simp [Rows.uptoBulk]
  nil := by simp [Rows.uptoBulk]
  slice := fun es sp => by simp only [Rows.uptoBulk, bk_all]; omega
  agg := fun l => by simp only [Rows.uptoBulk, bk_all]; omega
theorem bulk_le {H : Type} {l : List (DataW H)} (hk : Rows.uptoSmall H l = true) : Rows.uptoBulkAll l ≤ 1048576 := of_decide_eq_true hk

theorem laid_out : laidOutB Tryz.prog = true := by kernel_rfl
theorem own_knob : ownKnob Tryz.prog.godebug = none := by kernel_rfl

/-- The types that types and schemas are made of. -/
def tyS : List TypeId := [27, 22, 25, 9, 3, 23, 109, 4, 107]
theorem tyS_ok : ∀ t ∈ tyS, flatOK Tryz.prog tyS t = true := by
  have h : (tyS.all fun t => flatOK Tryz.prog tyS t) = true := by kernel_rfl
  exact fun t ht => List.all_eq_true.1 h t ht
end Go.Proofs.YtmphiikdhifhjaaGreat
set_option maxRecDepth 100000
namespace Go.Proofs.YtmphiikdhifhjaaGreat
open Go Go.RowKit Dv Tryz

theorem nmTx_succ {l : List Wd} {i : Nat} {x : Wd} (h : l[i]? = some x) : nmTx (l.take (i + 1)) = nmTx (l.take i) ++ [x.s] := by
  rw [List.take_add_one, h]; simp [nmTx]
theorem dup_mem (l : List Wd) (s : ByteArray) : dupBefore l s = true ↔ s ∈ nmTx l := by
  simp only [dupBefore, List.any_eq_true, decide_eq_true_eq, nmTx, List.mem_map]

theorem nodup_succ {l : List Wd} {i : Nat} {x : Wd} (h : l[i]? = some x) (hn : (nmTx (l.take i)).Nodup) : (nmTx (l.take (i + 1))).Nodup ↔ dupBefore (l.take i) x.s = false := by
  rw [nmTx_succ h, List.nodup_append]
  constructor
  · rintro ⟨_, _, h3⟩
    cases hb : dupBefore (l.take i) x.s
    · rfl
    · exact absurd rfl (h3 x.s ((dup_mem _ _).1 hb) x.s (by simp))
  · intro hb
    refine ⟨hn, by simp, fun a ha b hb2 => ?_⟩
    simp only [List.mem_singleton] at hb2
    subst hb2
    rintro rfl
    rw [(dup_mem _ _).2 ha] at hb
    cases hb

/-- The names so far being unlike, both say the same of the next. -/
theorem listed_eq {l : List Wd} {i : Nat} {x : Wd} (a : Int) (h : l[i]? = some x) (hn : (nmTx (l.take i)).Nodup) :
    listedP (nmTx (l.take (i + 1))) x.s a = if listedF l i x ≠ 0 then (listedF l i x, a) else (0, 0) := by
  have hs := nodup_succ h hn
  unfold listedP listedF
  by_cases h1 : nameOK x.s = true
  · rw [if_pos h1, if_pos h1]
    by_cases h2 : dupBefore (l.take i) x.s = true
    · rw [if_pos h2, if_neg (fun hc => by rw [hs.1 hc] at h2; cases h2)]; rfl
    · rw [if_neg h2, if_pos (hs.2 (by simpa using h2))]; rfl
  · rw [if_neg h1, if_neg h1]; rfl

/-- Where both find nothing, the names stay unlike. -/
theorem listed_nodup {l : List Wd} {i : Nat} {x : Wd} (h : l[i]? = some x) (hn : (nmTx (l.take i)).Nodup) (hz : listedF l i x = 0) : (nmTx (l.take (i + 1))).Nodup := by
  refine (nodup_succ h hn).2 ?_
  unfold listedF at hz
  by_cases h1 : nameOK x.s = true
  · rw [if_pos h1] at hz
    by_cases h2 : dupBefore (l.take i) x.s = true
    · rw [if_pos h2] at hz; simp at hz
    · simpa using h2
  · rw [if_neg h1] at hz; simp at hz

/-- The enum's names: the first fault, from the e-th name on. -/
theorem enum_from (l : List Wd) : ∀ (d e : Nat), e + d = l.length → (enumP l e) = (0, 0) → (nmTx (l.take e)).Nodup → enumP l l.length = enumL l e (l.drop e)
  | 0, e, hd, hz, hn => by
    have : e = l.length := by omega
    subst this
    rw [hz, List.drop_length]; rfl
  | d + 1, e, hd, hz, hn => by
    obtain ⟨x, hx⟩ : ∃ x, l[e]? = some x := ⟨_, List.getElem?_eq_getElem (by omega)⟩
    have h1 := enumP_step (by rw [hz]) hx
    rw [listed_eq x.a hx hn] at h1
    rw [drop_cons hx]
    simp only [enumL]
    by_cases hf : listedF l e x ≠ 0
    · rw [if_pos hf] at h1 ⊢
      have hst := enumP_stay (l := l) (e := e + 1) (by rw [h1]; exact hf) d
      rw [show e + 1 + d = l.length by omega] at hst
      rw [hst, h1]
    · rw [if_neg hf] at h1 ⊢
      exact enum_from l d (e + 1) (by omega) h1 (listed_nodup hx hn (by simpa using hf))

theorem kenum_eq (h : Hd) : kenumF h = enumWd h := by
  unfold kenumF enumWd
  by_cases h0 : h.names = []
  · rw [if_pos h0, if_pos (by simp [h0])]
  · rw [if_neg h0, if_neg (by simpa using h0)]
    by_cases h1 : 64 < h.names.length
    · rw [if_pos h1, if_pos h1]
    · rw [if_neg h1, if_neg h1]
      have := enum_from h.names h.names.length 0 (by omega) rfl (by simp [nmTx])
      simpa using this

/-- A bare part's only like. -/
def bareOf (p : Ph) : Ph := ⟨p.name, true, [], 0, 0, 0, 0, []⟩
theorem bare_eq (p : Ph) (t : Ty) : samePartB p t (bareOf p) zeroTy = (plainP p barePh && sameTy t zeroTy) := by
  have e : plainP p (bareOf p) = plainP p barePh := rfl
  unfold samePartB
  rw [e]
  have e2 : decide (p.name.s = (bareOf p).name.s) = true := decide_eq_true rfl
  rw [e2, Bool.true_and]
theorem empty_eq (p : Ph) : samePartB p zeroTy zeroPh zeroTy = (decide (p.name.s = emptyB) && plainP p zeroPh) := by
  have e : sameTy zeroTy zeroTy = true := by simp [zeroTy, zeroHd, sameTy, sameHd, samePts, sameWds]
  simp only [samePartB, e, Bool.and_true]
  rfl
end Go.Proofs.YtmphiikdhifhjaaGreat
set_option maxRecDepth 100000
namespace Go.Proofs.YtmphiikdhifhjaaGreat
open Go Go.RowKit Dv Tryz

/-- What one of the checker's methods says: the fault, and how many types so far, where nothing is wrong. -/
def ChkR (x : Ft × Int) (r : DV) (os : List (List DV)) (_ : List TkE) : Prop :=
  r = x.1.d ∧ ∃ z : Int, os = [[.v (.int .i64 z)]] ∧ (x.1.1 = 0 → z = x.2)

theorem chkR_cl {x : Ft × Int} : ∀ r os tk, ChkR x r os tk → clB 0 0 r = true ∧ ∀ cs2 ∈ os, clB.clL 0 0 cs2 = true := by
  rintro r os tk ⟨rfl, z, rfl, _⟩
  refine ⟨rfl, fun cs2 h => ?_⟩
  simp only [List.mem_singleton] at h
  subst h
  rfl

/-- The contract of check, for types of at most this weight. -/
def KChk (k : Nat) : Prop := ∀ (t : Ty) (depth m : Int), t.wt ≤ k → t.wt ≤ 1099511627776 → 0 ≤ depth → depth ≤ 25 → 0 ≤ m → m ≤ 512 →
  Ev Tryz.prog 125 [.loc 0 0, .agg (dTy t), .v (.int .i64 depth)] [[.v (.int .i64 m)]] [] (ChkR (wrong t depth m))

/-- What part says of a part. -/
def partF (p : Ph) (t : Ty) (un : Bool) (depth m : Int) : Ft × Int :=
  if p.bare = true then (if un = false ∨ samePartB p t (bareOf p) zeroTy = false then ((19, p.name.a), m) else ((0, 0), m))
  else if (partWd p).1 ≠ 0 then (partWd p, m)
  else wrong t (depth + 1) m

/-- What is left at the end: the value's form. -/
theorem chkR_mk {x : Ft × Int} {f : Ft} {m z : Int} (h : x = (f, m)) (hz : f.1 = 0 → z = m) {tk : List TkE} : ChkR x f.d [[.v (.int .i64 z)]] tk := by
  subst h
  exact ⟨rfl, z, rfl, hz⟩

theorem kpart_spec (k : Nat) (ih : KChk k) (p : Ph) (t : Ty) (un : Bool) (depth m : Int) (hk : t.wt ≤ k) (hp : p.wt ≤ 1099511627776) (hbig : t.wt ≤ 1099511627776) (hd0 : 0 ≤ depth) (hd1 : depth ≤ 24) (hm0 : 0 ≤ m) (hm1 : m ≤ 512) :
    Ev Tryz.prog 192 [.loc 0 0, .agg (dPh p (dTy t)), .v (.bool un), .v (.int .i64 depth)] [[.v (.int .i64 m)]] [] (ChkR (partF p t un depth m)) := by
  have hp' := hp
  simp only [Ph.wt] at hp'
  have hsame := samePart_of p (bareOf p) t zeroTy hp (by simp only [Ph.wt, bareOf, wdsWt]; omega) (ksame_spec t zeroTy hbig (by decide))
  have hih := ih t (depth + 1) m hk hbig (by omega) (by omega) hm0 hm1
  obtain ⟨u, us⟩ := t
  have hcoa := kcoarse_spec p (dTy (.mk u us)) (.mk u us) rfl hp
  have hS := partF.eq_def p (.mk u us) un depth m
  generalize partF p (.mk u us) un depth m = F at hS ⊢
  obtain ⟨nm, bare, lab, wide, ck, cn, ca, cl⟩ := p
  simp only at hS hp' hsame
  cases bare with
  | true =>
    rw [if_pos rfl] at hS
    cases un with
    | true =>
      refine ev_go (P := Tryz.prog) tt tt_ok 5000 68 [.cell 8 33] Tryz.func192 rfl Tryz.ntmps192 rfl (Nat.le_of_ble_eq_true rfl) (fun E9 w9 hn9 hm9 => ?_)
      refine call_p (enters_of Tryz.func202 (by decide +kernel) rfl) (hsame) (by repeat' (first | exact rfl | exact trivial | exact Or.inr (Or.inl ⟨_, rfl⟩) | exact Or.inr ⟨_, rfl⟩ | exact Or.inl ⟨rfl, rfl⟩ | exact Or.inl rfl | refine Or.inr ⟨_, _, rfl, Nat.zero_le _, rfl, ?_⟩ | refine ⟨_, _, rfl, ?_, ?_⟩ | refine ⟨_, rfl, ?_⟩ | refine Or.inr (Or.inr (Or.inr ⟨_, _, rfl, ?_⟩)) | exact Or.inl rfl | refine Or.inr ?_)) rfl ?_
      refine br (fun q => ?_) (fun q => ?_)
      · have q : samePartB ⟨nm, true, lab, wide, ck, cn, ca, cl⟩ (.mk u us) (bareOf ⟨nm, true, lab, wide, ck, cn, ca, cl⟩) zeroTy = false := by simpa [show (lastG (21, false) [(18, true)]).snd = true from rfl, pickB] using q
        rw [if_pos (.inr q)] at hS
        refine call_p (enters_of Tryz.func164 (by decide +kernel) rfl) (bad_spec 19 nm.a) (by repeat' (first | exact rfl | exact trivial | exact Or.inr (Or.inl ⟨_, rfl⟩) | exact Or.inr ⟨_, rfl⟩ | exact Or.inl ⟨rfl, rfl⟩ | exact Or.inl rfl | refine Or.inr ⟨_, _, rfl, Nat.zero_le _, rfl, ?_⟩ | refine ⟨_, _, rfl, ?_, ?_⟩ | refine ⟨_, rfl, ?_⟩ | refine Or.inr (Or.inr (Or.inr ⟨_, _, rfl, ?_⟩)) | exact Or.inl rfl | refine Or.inr ?_)) rfl ?_
        exact ⟨_, _, (by repeat' (first | exact rfl | exact trivial | exact Or.inr (Or.inl ⟨_, rfl⟩) | exact Or.inr ⟨_, rfl⟩ | exact Or.inl ⟨rfl, rfl⟩ | exact Or.inl rfl | refine Or.inr ⟨_, _, rfl, Nat.zero_le _, rfl, ?_⟩ | refine ⟨_, _, rfl, ?_, ?_⟩ | refine ⟨_, rfl, ?_⟩ | refine Or.inr (Or.inr (Or.inr ⟨_, _, rfl, ?_⟩)) | exact Or.inl rfl | refine Or.inr ?_)), (by repeat' (first | exact rfl | exact trivial | exact Or.inr (Or.inl ⟨_, rfl⟩) | exact Or.inr ⟨_, rfl⟩ | exact Or.inl ⟨rfl, rfl⟩ | exact Or.inl rfl | refine Or.inr ⟨_, _, rfl, Nat.zero_le _, rfl, ?_⟩ | refine ⟨_, _, rfl, ?_, ?_⟩ | refine ⟨_, rfl, ?_⟩ | refine Or.inr (Or.inr (Or.inr ⟨_, _, rfl, ?_⟩)) | exact Or.inl rfl | refine Or.inr ?_)), chkR_mk (tk := []) (f := (19, nm.a)) hS (fun _ => rfl)⟩
      · have q : samePartB ⟨nm, true, lab, wide, ck, cn, ca, cl⟩ (.mk u us) (bareOf ⟨nm, true, lab, wide, ck, cn, ca, cl⟩) zeroTy = true := by simpa [show (lastG (21, false) [(18, true)]).snd = true from rfl, pickB] using q
        rw [if_neg (by simp [q])] at hS
        exact ⟨_, _, (by repeat' (first | exact rfl | exact trivial | exact Or.inr (Or.inl ⟨_, rfl⟩) | exact Or.inr ⟨_, rfl⟩ | exact Or.inl ⟨rfl, rfl⟩ | exact Or.inl rfl | refine Or.inr ⟨_, _, rfl, Nat.zero_le _, rfl, ?_⟩ | refine ⟨_, _, rfl, ?_, ?_⟩ | refine ⟨_, rfl, ?_⟩ | refine Or.inr (Or.inr (Or.inr ⟨_, _, rfl, ?_⟩)) | exact Or.inl rfl | refine Or.inr ?_)), (by repeat' (first | exact rfl | exact trivial | exact Or.inr (Or.inl ⟨_, rfl⟩) | exact Or.inr ⟨_, rfl⟩ | exact Or.inl ⟨rfl, rfl⟩ | exact Or.inl rfl | refine Or.inr ⟨_, _, rfl, Nat.zero_le _, rfl, ?_⟩ | refine ⟨_, _, rfl, ?_, ?_⟩ | refine ⟨_, rfl, ?_⟩ | refine Or.inr (Or.inr (Or.inr ⟨_, _, rfl, ?_⟩)) | exact Or.inl rfl | refine Or.inr ?_)), chkR_mk (tk := []) (f := (0, 0)) hS (fun _ => rfl)⟩
    | false =>
      refine ev_go (P := Tryz.prog) tt tt_ok 5000 68 [.cell 8 33] Tryz.func192 rfl Tryz.ntmps192 rfl (Nat.le_of_ble_eq_true rfl) (fun E9 w9 hn9 hm9 => ?_)
      rw [if_pos (.inl rfl)] at hS
      refine call_p (enters_of Tryz.func164 (by decide +kernel) rfl) (bad_spec 19 nm.a) (by repeat' (first | exact rfl | exact trivial | exact Or.inr (Or.inl ⟨_, rfl⟩) | exact Or.inr ⟨_, rfl⟩ | exact Or.inl ⟨rfl, rfl⟩ | exact Or.inl rfl | refine Or.inr ⟨_, _, rfl, Nat.zero_le _, rfl, ?_⟩ | refine ⟨_, _, rfl, ?_, ?_⟩ | refine ⟨_, rfl, ?_⟩ | refine Or.inr (Or.inr (Or.inr ⟨_, _, rfl, ?_⟩)) | exact Or.inl rfl | refine Or.inr ?_)) rfl ?_
      exact ⟨_, _, (by repeat' (first | exact rfl | exact trivial | exact Or.inr (Or.inl ⟨_, rfl⟩) | exact Or.inr ⟨_, rfl⟩ | exact Or.inl ⟨rfl, rfl⟩ | exact Or.inl rfl | refine Or.inr ⟨_, _, rfl, Nat.zero_le _, rfl, ?_⟩ | refine ⟨_, _, rfl, ?_, ?_⟩ | refine ⟨_, rfl, ?_⟩ | refine Or.inr (Or.inr (Or.inr ⟨_, _, rfl, ?_⟩)) | exact Or.inl rfl | refine Or.inr ?_)), (by repeat' (first | exact rfl | exact trivial | exact Or.inr (Or.inl ⟨_, rfl⟩) | exact Or.inr ⟨_, rfl⟩ | exact Or.inl ⟨rfl, rfl⟩ | exact Or.inl rfl | refine Or.inr ⟨_, _, rfl, Nat.zero_le _, rfl, ?_⟩ | refine ⟨_, _, rfl, ?_, ?_⟩ | refine ⟨_, rfl, ?_⟩ | refine Or.inr (Or.inr (Or.inr ⟨_, _, rfl, ?_⟩)) | exact Or.inl rfl | refine Or.inr ?_)), chkR_mk (tk := []) (f := (19, nm.a)) hS (fun _ => rfl)⟩
  | false =>
    rw [if_neg (by simp)] at hS
    refine ev_go (P := Tryz.prog) tt tt_ok 5000 68 [.cell 8 33] Tryz.func192 rfl Tryz.ntmps192 rfl (Nat.le_of_ble_eq_true rfl) (fun E9 w9 hn9 hm9 => ?_)
    refine br (fun hw => ?_) (fun hw => ?_)
    · have hw : wide < 0 ∨ 64 < wide := by simpa [pickB_or] using hw
      have hP : partWd ⟨nm, false, lab, wide, ck, cn, ca, cl⟩ = (20, nm.a) := by simp only [partWd, if_pos hw]
      rw [hP, if_pos (by simp)] at hS
      refine call_p (enters_of Tryz.func164 (by decide +kernel) rfl) (bad_spec 20 nm.a) (by repeat' (first | exact rfl | exact trivial | exact Or.inr (Or.inl ⟨_, rfl⟩) | exact Or.inr ⟨_, rfl⟩ | exact Or.inl ⟨rfl, rfl⟩ | exact Or.inl rfl | refine Or.inr ⟨_, _, rfl, Nat.zero_le _, rfl, ?_⟩ | refine ⟨_, _, rfl, ?_, ?_⟩ | refine ⟨_, rfl, ?_⟩ | refine Or.inr (Or.inr (Or.inr ⟨_, _, rfl, ?_⟩)) | exact Or.inl rfl | refine Or.inr ?_)) rfl ?_
      exact ⟨_, _, (by repeat' (first | exact rfl | exact trivial | exact Or.inr (Or.inl ⟨_, rfl⟩) | exact Or.inr ⟨_, rfl⟩ | exact Or.inl ⟨rfl, rfl⟩ | exact Or.inl rfl | refine Or.inr ⟨_, _, rfl, Nat.zero_le _, rfl, ?_⟩ | refine ⟨_, _, rfl, ?_, ?_⟩ | refine ⟨_, rfl, ?_⟩ | refine Or.inr (Or.inr (Or.inr ⟨_, _, rfl, ?_⟩)) | exact Or.inl rfl | refine Or.inr ?_)), (by repeat' (first | exact rfl | exact trivial | exact Or.inr (Or.inl ⟨_, rfl⟩) | exact Or.inr ⟨_, rfl⟩ | exact Or.inl ⟨rfl, rfl⟩ | exact Or.inl rfl | refine Or.inr ⟨_, _, rfl, Nat.zero_le _, rfl, ?_⟩ | refine ⟨_, _, rfl, ?_, ?_⟩ | refine ⟨_, rfl, ?_⟩ | refine Or.inr (Or.inr (Or.inr ⟨_, _, rfl, ?_⟩)) | exact Or.inl rfl | refine Or.inr ?_)), chkR_mk (tk := []) (f := (20, nm.a)) hS (fun _ => rfl)⟩
    have hw : ¬ (wide < 0 ∨ 64 < wide) := by simp [pickB_or] at hw; omega
    refine call_p (enters_of Tryz.func203 (by decide +kernel) rfl) (klabel_spec lab (by omega)) (by repeat' (first | exact rfl | exact trivial | exact Or.inr (Or.inl ⟨_, rfl⟩) | exact Or.inr ⟨_, rfl⟩ | exact Or.inl ⟨rfl, rfl⟩ | exact Or.inl rfl | refine Or.inr ⟨_, _, rfl, Nat.zero_le _, rfl, ?_⟩ | refine ⟨_, _, rfl, ?_, ?_⟩ | refine ⟨_, rfl, ?_⟩ | refine Or.inr (Or.inr (Or.inr ⟨_, _, rfl, ?_⟩)) | exact Or.inl rfl | refine Or.inr ?_)) rfl ?_
    refine br (fun hb => ?_) (fun hb => ?_)
    · have hb : (labelF lab).1 ≠ 0 := by simpa using hb
      have hP : partWd ⟨nm, false, lab, wide, ck, cn, ca, cl⟩ = labelF lab := by simp only [partWd, if_neg hw, if_pos hb]
      rw [hP, if_pos hb] at hS
      exact ⟨_, _, (by repeat' (first | exact rfl | exact trivial | exact Or.inr (Or.inl ⟨_, rfl⟩) | exact Or.inr ⟨_, rfl⟩ | exact Or.inl ⟨rfl, rfl⟩ | exact Or.inl rfl | refine Or.inr ⟨_, _, rfl, Nat.zero_le _, rfl, ?_⟩ | refine ⟨_, _, rfl, ?_, ?_⟩ | refine ⟨_, rfl, ?_⟩ | refine Or.inr (Or.inr (Or.inr ⟨_, _, rfl, ?_⟩)) | exact Or.inl rfl | refine Or.inr ?_)), (by repeat' (first | exact rfl | exact trivial | exact Or.inr (Or.inl ⟨_, rfl⟩) | exact Or.inr ⟨_, rfl⟩ | exact Or.inl ⟨rfl, rfl⟩ | exact Or.inl rfl | refine Or.inr ⟨_, _, rfl, Nat.zero_le _, rfl, ?_⟩ | refine ⟨_, _, rfl, ?_, ?_⟩ | refine ⟨_, rfl, ?_⟩ | refine Or.inr (Or.inr (Or.inr ⟨_, _, rfl, ?_⟩)) | exact Or.inl rfl | refine Or.inr ?_)), chkR_mk (tk := []) (f := labelF lab) hS (fun _ => rfl)⟩
    have hb : (labelF lab).1 = 0 := by simpa using hb
    have hP : partWd ⟨nm, false, lab, wide, ck, cn, ca, cl⟩ = coarseF ⟨nm, false, lab, wide, ck, cn, ca, cl⟩ := by simp only [partWd, if_neg hw]; rw [if_neg (by simp [hb])]
    rw [hP] at hS
    refine call_p (enters_of Tryz.func204 (by decide +kernel) rfl) (hcoa) (by repeat' (first | exact rfl | exact trivial | exact Or.inr (Or.inl ⟨_, rfl⟩) | exact Or.inr ⟨_, rfl⟩ | exact Or.inl ⟨rfl, rfl⟩ | exact Or.inl rfl | refine Or.inr ⟨_, _, rfl, Nat.zero_le _, rfl, ?_⟩ | refine ⟨_, _, rfl, ?_, ?_⟩ | refine ⟨_, rfl, ?_⟩ | refine Or.inr (Or.inr (Or.inr ⟨_, _, rfl, ?_⟩)) | exact Or.inl rfl | refine Or.inr ?_)) rfl ?_
    refine br (fun hc => ?_) (fun hc => ?_)
    · have hc : (coarseF ⟨nm, false, lab, wide, ck, cn, ca, cl⟩).1 ≠ 0 := by simpa using hc
      rw [if_pos hc] at hS
      exact ⟨_, _, (by repeat' (first | exact rfl | exact trivial | exact Or.inr (Or.inl ⟨_, rfl⟩) | exact Or.inr ⟨_, rfl⟩ | exact Or.inl ⟨rfl, rfl⟩ | exact Or.inl rfl | refine Or.inr ⟨_, _, rfl, Nat.zero_le _, rfl, ?_⟩ | refine ⟨_, _, rfl, ?_, ?_⟩ | refine ⟨_, rfl, ?_⟩ | refine Or.inr (Or.inr (Or.inr ⟨_, _, rfl, ?_⟩)) | exact Or.inl rfl | refine Or.inr ?_)), (by repeat' (first | exact rfl | exact trivial | exact Or.inr (Or.inl ⟨_, rfl⟩) | exact Or.inr ⟨_, rfl⟩ | exact Or.inl ⟨rfl, rfl⟩ | exact Or.inl rfl | refine Or.inr ⟨_, _, rfl, Nat.zero_le _, rfl, ?_⟩ | refine ⟨_, _, rfl, ?_, ?_⟩ | refine ⟨_, rfl, ?_⟩ | refine Or.inr (Or.inr (Or.inr ⟨_, _, rfl, ?_⟩)) | exact Or.inl rfl | refine Or.inr ?_)), chkR_mk (tk := []) (f := coarseF ⟨nm, false, lab, wide, ck, cn, ca, cl⟩) hS (fun _ => rfl)⟩
    have hc : (coarseF ⟨nm, false, lab, wide, ck, cn, ca, cl⟩).1 = 0 := by simpa using hc
    rw [if_neg (by simp [hc])] at hS
    refine call_o (enters_of Tryz.func125 (by decide +kernel) rfl) rfl rfl (by repeat' (first | exact rfl | exact trivial | exact Or.inr (Or.inl ⟨_, rfl⟩) | exact Or.inr ⟨_, rfl⟩ | exact Or.inl ⟨rfl, rfl⟩ | exact Or.inl rfl | refine Or.inr ⟨_, _, rfl, Nat.zero_le _, rfl, ?_⟩ | refine ⟨_, _, rfl, ?_, ?_⟩ | refine ⟨_, rfl, ?_⟩ | refine Or.inr (Or.inr (Or.inr ⟨_, _, rfl, ?_⟩)) | exact Or.inl rfl | refine Or.inr ?_)) (by repeat' (first | exact rfl | exact trivial | exact Or.inr (Or.inl ⟨_, rfl⟩) | exact Or.inr ⟨_, rfl⟩ | exact Or.inl ⟨rfl, rfl⟩ | exact Or.inl rfl | refine Or.inr ⟨_, _, rfl, Nat.zero_le _, rfl, ?_⟩ | refine ⟨_, _, rfl, ?_, ?_⟩ | refine ⟨_, rfl, ?_⟩ | exact congrArg (fun z => DV.v (.int .i64 z)) (wrap64 (by omega) (by omega)) | refine Or.inr (Or.inr (Or.inr ⟨_, _, rfl, ?_⟩)) | exact Or.inl rfl | refine Or.inr ?_)) hih chkR_cl (fun r cs2 hr => ?_)
    obtain ⟨rfl, z, hz, hzz⟩ := hr
    simp only [List.cons.injEq, and_true] at hz
    subst hz
    exact ⟨_, _, (by repeat' (first | exact rfl | exact trivial | exact Or.inr (Or.inl ⟨_, rfl⟩) | exact Or.inr ⟨_, rfl⟩ | exact Or.inl ⟨rfl, rfl⟩ | exact Or.inl rfl | refine Or.inr ⟨_, _, rfl, Nat.zero_le _, rfl, ?_⟩ | refine ⟨_, _, rfl, ?_, ?_⟩ | refine ⟨_, rfl, ?_⟩ | refine Or.inr (Or.inr (Or.inr ⟨_, _, rfl, ?_⟩)) | exact Or.inl rfl | refine Or.inr ?_)), (by repeat' (first | exact rfl | exact trivial | exact Or.inr (Or.inl ⟨_, rfl⟩) | exact Or.inr ⟨_, rfl⟩ | exact Or.inl ⟨rfl, rfl⟩ | exact Or.inl rfl | refine Or.inr ⟨_, _, rfl, Nat.zero_le _, rfl, ?_⟩ | refine ⟨_, _, rfl, ?_, ?_⟩ | refine ⟨_, rfl, ?_⟩ | refine Or.inr (Or.inr (Or.inr ⟨_, _, rfl, ?_⟩)) | exact Or.inl rfl | refine Or.inr ?_)), chkR_mk (tk := []) (f := (wrong (.mk u us) (depth + 1) m).1) hS hzz⟩
end Go.Proofs.YtmphiikdhifhjaaGreat
set_option maxRecDepth 100000
namespace Go.Proofs.YtmphiikdhifhjaaGreat
open Go Go.RowKit Dv Tryz

theorem wrongPts_part {kind : Int} {all : List Wd} {i : Nat} {p : Ph} {t : Ty} {r : Pts} {depth m : Int} (hk : kind = 7 ∨ kind = 8) (hl : listedF all i p.name = 0) :
    wrongPts kind all i (.cons p t r) depth m = if (partF p t (decide (kind = 8)) depth m).1.1 ≠ 0 then partF p t (decide (kind = 8)) depth m else wrongPts kind all (i + 1) r depth (partF p t (decide (kind = 8)) depth m).2 := by
  simp only [wrongPts]
  rw [if_neg (by simp [hl])]
  unfold partF
  by_cases hb : p.bare = true
  · rw [if_pos hb, if_pos hb, bare_eq]
    by_cases h7 : kind = 7
    · subst h7
      rw [if_pos (.inl rfl), if_pos (c := decide ((7 : Int) = 8) = false ∨ _) (.inl (by simp)), if_pos (by simp)]
    · have h8 : kind = 8 := by omega
      subst h8
      by_cases h : sameTy t zeroTy = false ∨ plainP p barePh = false
      · have h' : decide ((8 : Int) = 8) = false ∨ (plainP p barePh && sameTy t zeroTy) = false := .inr (by rcases h with h | h <;> simp [h])
        rw [if_pos (.inr h), if_pos h', if_pos (by simp)]
      · have h1 : sameTy t zeroTy = true := by
          cases hc : sameTy t zeroTy
          · exact absurd (.inl hc) h
          · rfl
        have h2 : plainP p barePh = true := by
          cases hc : plainP p barePh
          · exact absurd (.inr hc) h
          · rfl
        have h' : ¬ (decide ((8 : Int) = 8) = false ∨ (plainP p barePh && sameTy t zeroTy) = false) := by simp [h1, h2]
        rw [if_neg (by simp [h1, h2]), if_neg h', if_neg (by simp)]
  · rw [if_neg hb, if_neg hb]
    by_cases hP : (partWd p).1 ≠ 0
    · rw [if_pos hP, if_pos hP, if_pos hP]
    · rw [if_neg hP, if_neg hP]

theorem partF_ok {p : Ph} {t : Ty} {un : Bool} {depth m : Int} (hm0 : 0 ≤ m) (hm1 : m ≤ 512) (h : (partF p t un depth m).1.1 = 0) : (partF p t un depth m).1 = (0, 0) ∧ 0 ≤ (partF p t un depth m).2 ∧ (partF p t un depth m).2 ≤ 512 := by
  have hw := wrong_ok t (depth + 1) m hm0
  unfold partF at h ⊢
  by_cases hb : p.bare = true
  · rw [if_pos hb] at h ⊢
    split at h
    · simp at h
    · rename_i hc
      rw [if_neg hc]
      exact ⟨rfl, hm0, hm1⟩
  · rw [if_neg hb] at h ⊢
    by_cases hP : (partWd p).1 ≠ 0
    · rw [if_pos hP] at h; exact absurd h hP
    · rw [if_neg hP] at h ⊢
      exact hw h

abbrev kpartsSt (h : Hd) (ps : Pts) (n e : Nat) (depth m : Int) : St :=
  ⟨[(0, ⟨[], .loc 0 0⟩), (2, ⟨[], .v (.int .i64 depth)⟩), (4, ⟨[], .loc 1 0⟩), (6, ⟨[], .loc 2 0⟩), (38, ⟨[], .sl 18 (dPts ps) none⟩), (39, ⟨[], .v (.int .i64 (dPts ps).length)⟩), (40, ⟨[], .v (.int .i64 e)⟩), (7, ⟨[], .sl 1 (dBs (nmTx ((pNames ps).take e))) (some 0)⟩)],
   [[.v (.int .i64 m)], dTy (.mk h ps), [.v (.int .i64 0), .v (.int .i64 0)]], [⟨n, 9, 1⟩]⟩

theorem kparts_spec (k : Nat) (ih : KChk k) (h : Hd) (ps : Pts) (depth m : Int) (hkd : h.kind = 7 ∨ h.kind = 8) (hk : ps.wt ≤ k) (hbig : (Ty.mk h ps).wt ≤ 1099511627776) (hd0 : 0 ≤ depth) (hd1 : depth ≤ 24) (hm0 : 0 ≤ m) (hm1 : m ≤ 512) :
    Ev Tryz.prog 168 [.loc 0 0, .agg (dTy (.mk h ps)), .v (.int .i64 depth)] [[.v (.int .i64 m)]] [] (ChkR (partsF h ps depth m)) := by
  simp only [Ty.wt, Hd.wt] at hbig
  have hpl := ps.wt_len
  have hnl := pNames_len ps
  have hnw := pNames_wt ps
  have hS := partsF.eq_def h ps depth m
  generalize partsF h ps depth m = F at hS ⊢
  refine ev_go (P := Tryz.prog) tt tt_ok 5000 72 [.cell 6 33] Tryz.func168 rfl Tryz.ntmps168 rfl (Nat.le_of_ble_eq_true rfl) (fun E9 w9 hn9 hm9 => ?_)
  refine br (fun c1 => ?_) (fun c1 => ?_)
  · have c1 : h.kind = 8 ∧ ps.len = 0 := by
      simp [pickB_and, dPts_len] at c1
      exact ⟨c1.1, by omega⟩
    rw [if_pos c1] at hS
    refine call_p (enters_of Tryz.func164 (by decide +kernel) rfl) (bad_spec 15 h.at') (by repeat' (first | exact rfl | exact trivial | exact Or.inr (Or.inl ⟨_, rfl⟩) | exact Or.inr ⟨_, rfl⟩ | exact Or.inl ⟨rfl, rfl⟩ | exact Or.inl rfl | refine Or.inr ⟨_, _, rfl, Nat.zero_le _, rfl, ?_⟩ | refine ⟨_, _, rfl, ?_, ?_⟩ | refine ⟨_, rfl, ?_⟩ | refine Or.inr (Or.inr (Or.inr ⟨_, _, rfl, ?_⟩)) | exact Or.inl rfl | refine Or.inr ?_)) rfl ?_
    exact ⟨_, _, (by repeat' (first | exact rfl | exact trivial | exact Or.inr (Or.inl ⟨_, rfl⟩) | exact Or.inr ⟨_, rfl⟩ | exact Or.inl ⟨rfl, rfl⟩ | exact Or.inl rfl | refine Or.inr ⟨_, _, rfl, Nat.zero_le _, rfl, ?_⟩ | refine ⟨_, _, rfl, ?_, ?_⟩ | refine ⟨_, rfl, ?_⟩ | refine Or.inr (Or.inr (Or.inr ⟨_, _, rfl, ?_⟩)) | exact Or.inl rfl | refine Or.inr ?_)), (by repeat' (first | exact rfl | exact trivial | exact Or.inr (Or.inl ⟨_, rfl⟩) | exact Or.inr ⟨_, rfl⟩ | exact Or.inl ⟨rfl, rfl⟩ | exact Or.inl rfl | refine Or.inr ⟨_, _, rfl, Nat.zero_le _, rfl, ?_⟩ | refine ⟨_, _, rfl, ?_, ?_⟩ | refine ⟨_, rfl, ?_⟩ | refine Or.inr (Or.inr (Or.inr ⟨_, _, rfl, ?_⟩)) | exact Or.inl rfl | refine Or.inr ?_)), chkR_mk (tk := []) (f := (15, h.at')) hS (fun _ => rfl)⟩
  have c1 : ¬ (h.kind = 8 ∧ ps.len = 0) := by
    simp [pickB_and, dPts_len] at c1
    omega
  rw [if_neg c1] at hS
  refine br (fun c2 => ?_) (fun c2 => ?_)
  · have hlt : 64 < ps.len := by simp [dPts_len] at c2; omega
    obtain ⟨p, t, hx⟩ := Pts.get_lt hlt
    refine ⟨_, ⟨by omega, dPts_get hx⟩, ?_⟩
    refine call_p (enters_of Tryz.func164 (by decide +kernel) rfl) (bad_spec 8 p.name.a) (by repeat' (first | exact rfl | exact trivial | exact Or.inr (Or.inl ⟨_, rfl⟩) | exact Or.inr ⟨_, rfl⟩ | exact Or.inl ⟨rfl, rfl⟩ | exact Or.inl rfl | refine Or.inr ⟨_, _, rfl, Nat.zero_le _, rfl, ?_⟩ | refine ⟨_, _, rfl, ?_, ?_⟩ | refine ⟨_, rfl, ?_⟩ | refine Or.inr (Or.inr (Or.inr ⟨_, _, rfl, ?_⟩)) | exact Or.inl rfl | refine Or.inr ?_)) rfl ?_
    rw [if_pos hlt, pNames_get hx] at hS
    exact ⟨_, _, (by repeat' (first | exact rfl | exact trivial | exact Or.inr (Or.inl ⟨_, rfl⟩) | exact Or.inr ⟨_, rfl⟩ | exact Or.inl ⟨rfl, rfl⟩ | exact Or.inl rfl | refine Or.inr ⟨_, _, rfl, Nat.zero_le _, rfl, ?_⟩ | refine ⟨_, _, rfl, ?_, ?_⟩ | refine ⟨_, rfl, ?_⟩ | refine Or.inr (Or.inr (Or.inr ⟨_, _, rfl, ?_⟩)) | exact Or.inl rfl | refine Or.inr ?_)), (by repeat' (first | exact rfl | exact trivial | exact Or.inr (Or.inl ⟨_, rfl⟩) | exact Or.inr ⟨_, rfl⟩ | exact Or.inl ⟨rfl, rfl⟩ | exact Or.inl rfl | refine Or.inr ⟨_, _, rfl, Nat.zero_le _, rfl, ?_⟩ | refine ⟨_, _, rfl, ?_, ?_⟩ | refine ⟨_, rfl, ?_⟩ | refine Or.inr (Or.inr (Or.inr ⟨_, _, rfl, ?_⟩)) | exact Or.inl rfl | refine Or.inr ?_)), chkR_mk (tk := []) (f := (8, p.name.a)) hS (fun _ => rfl)⟩
  have c2 : ¬ 64 < ps.len := by simp [dPts_len] at c2; omega
  rw [if_neg c2] at hS
  refine loop_i (fun j st => ∃ (e : Nat) (m' : Int), st = kpartsSt h ps e e depth m' ∧ e ≤ ps.len ∧ 0 ≤ m' ∧ m' ≤ 512 ∧ (nmTx ((pNames ps).take e)).Nodup ∧
      F = wrongPts h.kind (pNames ps) e (ps.drop e) depth m' ∧ j = ps.len - e) ps.len (kpartsSt h ps 0 0 depth m) (weak_tok ⟨0, 9, 1⟩ rfl ⟨_, rfl⟩ rfl (by repeat' (first | exact rfl | exact we_rfl rfl | refine ⟨_, _, rfl, ?_, ?_⟩)) rfl rfl (by repeat' (first | exact trivial | exact we_rfl rfl | exact we_rfl rfl | exact we_tok (Nat.le_refl _) rfl | refine ⟨⟨_, rfl, ?_⟩, ?_⟩))) ⟨0, m, rfl, by omega, hm0, hm1, by simp [nmTx], hS, by omega⟩ ?_
  rintro j st ⟨e, m', rfl, he, hm0', hm1', hnd, heq, rfl⟩
  refine br (fun hL => ?_) (fun hL => ?_)
  · have hlt : e < ps.len := by simpa [dPts_len] using hL
    obtain ⟨p, t, hx⟩ := Pts.get_lt hlt
    have hwt := Pts.wt_mem (List.mem_of_getElem? hx)
    have hnx := pNames_get hx
    have hpw : p.name.s.size + 64 ≤ p.wt := by simp only [Ph.wt, Wd.wt]; omega
    rw [Pts.drop_cons hx] at heq
    have hlast : (nmTx ((pNames ps).take (e + 1)))[(nmTx ((pNames ps).take (e + 1))).length - 1]? = some p.name.s := by
      have hl1 : (nmTx ((pNames ps).take (e + 1))).length = e + 1 := by simp [nmTx]; omega
      rw [hl1]
      simp [nmTx, hnx]
    have hsp := listed_spec (nmTx ((pNames ps).take (e + 1))) p.name.s p.name.a hlast (by simp [nmTx]; omega) (by omega)
    have hsn := nmTx_snoc hnx
    rw [listed_eq p.name.a hnx hnd, ← hsn] at hsp
    have hpart := kpart_spec k ih p t (decide (h.kind = 8)) depth m' (by omega) (by omega) (by omega) hd0 hd1 hm0' hm1'
    obtain ⟨u, us⟩ := t
    refine ⟨_, ⟨by omega, dPts_get hx⟩, ?_⟩
    refine ⟨by simp [dBs_len, nmTx]; omega, ⟨by simp [dBs_len, nmTx, maxLen]; omega, by simp [dBs_len, nmTx]; omega⟩, ?_⟩
    refine call_p (enters_of Tryz.func190 (by decide +kernel) rfl) (hsp) (by repeat' (first | exact rfl | exact trivial | exact Or.inr (Or.inl ⟨_, rfl⟩) | exact Or.inr ⟨_, rfl⟩ | exact Or.inl ⟨rfl, rfl⟩ | exact Or.inl rfl | refine Or.inr ⟨_, _, rfl, Nat.zero_le _, rfl, ?_⟩ | refine ⟨_, _, rfl, ?_, ?_⟩ | refine ⟨_, rfl, ?_⟩ | refine Or.inr (Or.inr (Or.inr ⟨_, _, rfl, ?_⟩)) | exact Or.inl rfl | refine Or.inr ?_)) rfl ?_
    by_cases hl : listedF (pNames ps) e p.name ≠ 0
    · rw [if_pos hl]
      refine br (fun hf => ?_) (fun hf => ?_)
      · simp only [wrongPts] at heq
        rw [if_pos hl] at heq
        exact ⟨_, _, (by repeat' (first | exact rfl | exact trivial | exact Or.inr (Or.inl ⟨_, rfl⟩) | exact Or.inr ⟨_, rfl⟩ | exact Or.inl ⟨rfl, rfl⟩ | exact Or.inl rfl | refine Or.inr ⟨_, _, rfl, Nat.zero_le _, rfl, ?_⟩ | refine ⟨_, _, rfl, ?_, ?_⟩ | refine ⟨_, rfl, ?_⟩ | refine Or.inr (Or.inr (Or.inr ⟨_, _, rfl, ?_⟩)) | exact Or.inl rfl | refine Or.inr ?_)), (by repeat' (first | exact rfl | exact trivial | exact Or.inr (Or.inl ⟨_, rfl⟩) | exact Or.inr ⟨_, rfl⟩ | exact Or.inl ⟨rfl, rfl⟩ | exact Or.inl rfl | refine Or.inr ⟨_, _, rfl, Nat.zero_le _, rfl, ?_⟩ | refine ⟨_, _, rfl, ?_, ?_⟩ | refine ⟨_, rfl, ?_⟩ | refine Or.inr (Or.inr (Or.inr ⟨_, _, rfl, ?_⟩)) | exact Or.inl rfl | refine Or.inr ?_)), chkR_mk (tk := []) (f := (listedF (pNames ps) e p.name, p.name.a)) heq (fun _ => rfl)⟩
      · exact absurd (by simpa using hf) hl
    have hl : listedF (pNames ps) e p.name = 0 := by simpa using hl
    have hndn := listed_nodup hnx hnd hl
    rw [if_neg (by simp [hl])]
    rw [wrongPts_part hkd hl] at heq
    have hok := partF_ok (p := p) (t := .mk u us) (un := decide (h.kind = 8)) (depth := depth) hm0' hm1'
    generalize partF p (.mk u us) (decide (h.kind = 8)) depth m' = r at hpart heq hok
    obtain ⟨⟨fe, fa⟩, many⟩ := r
    simp only at heq hok
    refine call_o (enters_of Tryz.func192 (by decide +kernel) rfl) rfl rfl (by repeat' (first | exact rfl | exact trivial | exact Or.inr (Or.inl ⟨_, rfl⟩) | exact Or.inr ⟨_, rfl⟩ | exact Or.inl ⟨rfl, rfl⟩ | exact Or.inl rfl | refine Or.inr ⟨_, _, rfl, Nat.zero_le _, rfl, ?_⟩ | refine ⟨_, _, rfl, ?_, ?_⟩ | refine ⟨_, rfl, ?_⟩ | refine Or.inr (Or.inr (Or.inr ⟨_, _, rfl, ?_⟩)) | exact Or.inl rfl | refine Or.inr ?_)) (by repeat' (first | exact rfl | exact trivial | exact Or.inr (Or.inl ⟨_, rfl⟩) | exact Or.inr ⟨_, rfl⟩ | exact Or.inl ⟨rfl, rfl⟩ | exact Or.inl rfl | refine Or.inr ⟨_, _, rfl, Nat.zero_le _, rfl, ?_⟩ | refine ⟨_, _, rfl, ?_, ?_⟩ | refine ⟨_, rfl, ?_⟩ | refine Or.inr (Or.inr (Or.inr ⟨_, _, rfl, ?_⟩)) | exact Or.inl rfl | refine Or.inr ?_)) hpart chkR_cl (fun r cs2 hr => ?_)
    obtain ⟨rfl, z, hz, hzz⟩ := hr
    simp only [List.cons.injEq, and_true] at hz
    subst hz
    refine br (fun hd => ?_) (fun hd => ?_)
    · have hd : fe ≠ 0 := by simpa using hd
      rw [if_pos hd] at heq
      exact ⟨_, _, (by repeat' (first | exact rfl | exact trivial | exact Or.inr (Or.inl ⟨_, rfl⟩) | exact Or.inr ⟨_, rfl⟩ | exact Or.inl ⟨rfl, rfl⟩ | exact Or.inl rfl | refine Or.inr ⟨_, _, rfl, Nat.zero_le _, rfl, ?_⟩ | refine ⟨_, _, rfl, ?_, ?_⟩ | refine ⟨_, rfl, ?_⟩ | refine Or.inr (Or.inr (Or.inr ⟨_, _, rfl, ?_⟩)) | exact Or.inl rfl | refine Or.inr ?_)), (by repeat' (first | exact rfl | exact trivial | exact Or.inr (Or.inl ⟨_, rfl⟩) | exact Or.inr ⟨_, rfl⟩ | exact Or.inl ⟨rfl, rfl⟩ | exact Or.inl rfl | refine Or.inr ⟨_, _, rfl, Nat.zero_le _, rfl, ?_⟩ | refine ⟨_, _, rfl, ?_, ?_⟩ | refine ⟨_, rfl, ?_⟩ | refine Or.inr (Or.inr (Or.inr ⟨_, _, rfl, ?_⟩)) | exact Or.inl rfl | refine Or.inr ?_)), chkR_mk (tk := []) (f := (fe, fa)) heq (fun h0 => absurd h0 hd)⟩
    · have hd : fe = 0 := by simpa using hd
      subst hd
      obtain ⟨_, h2, h3⟩ := hok rfl
      rw [if_neg (by simp)] at heq
      have hz2 : z = many := hzz rfl
      subst hz2
      exact ⟨kpartsSt h ps (e + 1) (e + 1) depth z, (weak_mk ⟨_, rfl⟩ (by repeat' (first | exact rfl | exact we_rfl rfl | refine ⟨_, _, rfl, ?_, ?_⟩)) rfl rfl rfl (by repeat' (first | exact trivial | exact we_rfl rfl | exact we_int (nxt hlt (by omega)) | exact we_sl hsn rfl | refine ⟨⟨_, rfl, ?_⟩, ?_⟩))), ps.len - (e + 1), by omega, e + 1, z, rfl, by omega, h2, h3, hndn, heq, rfl⟩
  · have hge : e = ps.len := by simp [dPts_len] at hL; omega
    rw [hge, Pts.drop_len] at heq
    simp only [wrongPts] at heq
    exact ⟨_, _, (by repeat' (first | exact rfl | exact trivial | exact Or.inr (Or.inl ⟨_, rfl⟩) | exact Or.inr ⟨_, rfl⟩ | exact Or.inl ⟨rfl, rfl⟩ | exact Or.inl rfl | refine Or.inr ⟨_, _, rfl, Nat.zero_le _, rfl, ?_⟩ | refine ⟨_, _, rfl, ?_, ?_⟩ | refine ⟨_, rfl, ?_⟩ | refine Or.inr (Or.inr (Or.inr ⟨_, _, rfl, ?_⟩)) | exact Or.inl rfl | refine Or.inr ?_)), (by repeat' (first | exact rfl | exact trivial | exact Or.inr (Or.inl ⟨_, rfl⟩) | exact Or.inr ⟨_, rfl⟩ | exact Or.inl ⟨rfl, rfl⟩ | exact Or.inl rfl | refine Or.inr ⟨_, _, rfl, Nat.zero_le _, rfl, ?_⟩ | refine ⟨_, _, rfl, ?_, ?_⟩ | refine ⟨_, rfl, ?_⟩ | refine Or.inr (Or.inr (Or.inr ⟨_, _, rfl, ?_⟩)) | exact Or.inl rfl | refine Or.inr ?_)), chkR_mk (tk := []) (f := (0, 0)) heq (fun _ => rfl)⟩
end Go.Proofs.YtmphiikdhifhjaaGreat
set_option maxRecDepth 100000
namespace Go.Proofs.YtmphiikdhifhjaaGreat
open Go Go.RowKit Dv Tryz

theorem kone_spec (k : Nat) (ih : KChk k) (h : Hd) (ps : Pts) (depth m : Int) (hk : ps.wt ≤ k) (hbig : (Ty.mk h ps).wt ≤ 1099511627776) (hd0 : 0 ≤ depth) (hd1 : depth ≤ 24) (hm0 : 0 ≤ m) (hm1 : m ≤ 512) :
    Ev Tryz.prog 167 [.loc 0 0, .agg (dTy (.mk h ps)), .v (.int .i64 depth)] [[.v (.int .i64 m)]] [] (ChkR (wrongOne h ps depth m)) := by
  simp only [Ty.wt, Hd.wt] at hbig
  cases ps with
  | nil =>
    have hS : wrongOne h .nil depth m = ((19, h.at'), m) := by simp only [wrongOne]
    generalize wrongOne h .nil depth m = F at hS ⊢
    refine ev_go (P := Tryz.prog) tt tt_ok 5000 44 [.cell 6 33] Tryz.func167 rfl Tryz.ntmps167 rfl (Nat.le_of_ble_eq_true rfl) (fun E9 w9 hn9 hm9 => ?_)
    refine call_p (enters_of Tryz.func164 (by decide +kernel) rfl) (bad_spec 19 h.at') (by repeat' (first | exact rfl | exact trivial | exact Or.inr (Or.inl ⟨_, rfl⟩) | exact Or.inr ⟨_, rfl⟩ | exact Or.inl ⟨rfl, rfl⟩ | exact Or.inl rfl | refine Or.inr ⟨_, _, rfl, Nat.zero_le _, rfl, ?_⟩ | refine ⟨_, _, rfl, ?_, ?_⟩ | refine ⟨_, rfl, ?_⟩ | refine Or.inr (Or.inr (Or.inr ⟨_, _, rfl, ?_⟩)) | exact Or.inl rfl | refine Or.inr ?_)) rfl ?_
    exact ⟨_, _, (by repeat' (first | exact rfl | exact trivial | exact Or.inr (Or.inl ⟨_, rfl⟩) | exact Or.inr ⟨_, rfl⟩ | exact Or.inl ⟨rfl, rfl⟩ | exact Or.inl rfl | refine Or.inr ⟨_, _, rfl, Nat.zero_le _, rfl, ?_⟩ | refine ⟨_, _, rfl, ?_, ?_⟩ | refine ⟨_, rfl, ?_⟩ | refine Or.inr (Or.inr (Or.inr ⟨_, _, rfl, ?_⟩)) | exact Or.inl rfl | refine Or.inr ?_)), (by repeat' (first | exact rfl | exact trivial | exact Or.inr (Or.inl ⟨_, rfl⟩) | exact Or.inr ⟨_, rfl⟩ | exact Or.inl ⟨rfl, rfl⟩ | exact Or.inl rfl | refine Or.inr ⟨_, _, rfl, Nat.zero_le _, rfl, ?_⟩ | refine ⟨_, _, rfl, ?_, ?_⟩ | refine ⟨_, rfl, ?_⟩ | refine Or.inr (Or.inr (Or.inr ⟨_, _, rfl, ?_⟩)) | exact Or.inl rfl | refine Or.inr ?_)), chkR_mk (tk := []) (f := (19, h.at')) hS (fun _ => rfl)⟩
  | cons p t r =>
    cases r with
    | cons p2 t2 r2 =>
      have hS : wrongOne h (.cons p t (.cons p2 t2 r2)) depth m = ((19, h.at'), m) := by simp only [wrongOne]
      generalize wrongOne h (.cons p t (.cons p2 t2 r2)) depth m = F at hS ⊢
      refine ev_go (P := Tryz.prog) tt tt_ok 5000 44 [.cell 6 33] Tryz.func167 rfl Tryz.ntmps167 rfl (Nat.le_of_ble_eq_true rfl) (fun E9 w9 hn9 hm9 => ?_)
      refine call_p (enters_of Tryz.func164 (by decide +kernel) rfl) (bad_spec 19 h.at') (by repeat' (first | exact rfl | exact trivial | exact Or.inr (Or.inl ⟨_, rfl⟩) | exact Or.inr ⟨_, rfl⟩ | exact Or.inl ⟨rfl, rfl⟩ | exact Or.inl rfl | refine Or.inr ⟨_, _, rfl, Nat.zero_le _, rfl, ?_⟩ | refine ⟨_, _, rfl, ?_, ?_⟩ | refine ⟨_, rfl, ?_⟩ | refine Or.inr (Or.inr (Or.inr ⟨_, _, rfl, ?_⟩)) | exact Or.inl rfl | refine Or.inr ?_)) rfl ?_
      exact ⟨_, _, (by repeat' (first | exact rfl | exact trivial | exact Or.inr (Or.inl ⟨_, rfl⟩) | exact Or.inr ⟨_, rfl⟩ | exact Or.inl ⟨rfl, rfl⟩ | exact Or.inl rfl | refine Or.inr ⟨_, _, rfl, Nat.zero_le _, rfl, ?_⟩ | refine ⟨_, _, rfl, ?_, ?_⟩ | refine ⟨_, rfl, ?_⟩ | refine Or.inr (Or.inr (Or.inr ⟨_, _, rfl, ?_⟩)) | exact Or.inl rfl | refine Or.inr ?_)), (by repeat' (first | exact rfl | exact trivial | exact Or.inr (Or.inl ⟨_, rfl⟩) | exact Or.inr ⟨_, rfl⟩ | exact Or.inl ⟨rfl, rfl⟩ | exact Or.inl rfl | refine Or.inr ⟨_, _, rfl, Nat.zero_le _, rfl, ?_⟩ | refine ⟨_, _, rfl, ?_, ?_⟩ | refine ⟨_, rfl, ?_⟩ | refine Or.inr (Or.inr (Or.inr ⟨_, _, rfl, ?_⟩)) | exact Or.inl rfl | refine Or.inr ?_)), chkR_mk (tk := []) (f := (19, h.at')) hS (fun _ => rfl)⟩
    | nil =>
      simp only [Pts.wt] at hbig hk
      have hS : wrongOne h (.cons p t .nil) depth m = if p.name.s ≠ emptyB ∨ plainP p zeroPh = false then ((19, h.at'), m) else if h.most < 0 ∨ 1024 < h.most then ((20, h.at'), m) else wrong t (depth + 1) m := by simp only [wrongOne]
      generalize wrongOne h (.cons p t .nil) depth m = F at hS ⊢
      have hem := kempty_spec p t (by omega)
      rw [empty_eq] at hem
      have hih := ih t (depth + 1) m (by omega) (by omega) (by omega) (by omega) hm0 hm1
      obtain ⟨u, us⟩ := t
      refine ev_go (P := Tryz.prog) tt tt_ok 5000 44 [.cell 6 33] Tryz.func167 rfl Tryz.ntmps167 rfl (Nat.le_of_ble_eq_true rfl) (fun E9 w9 hn9 hm9 => ?_)
      refine ⟨_, ⟨by omega, rfl⟩, ?_⟩
      refine call_p (enters_of Tryz.func191 (by decide +kernel) rfl) (hem) (by repeat' (first | exact rfl | exact trivial | exact Or.inr (Or.inl ⟨_, rfl⟩) | exact Or.inr ⟨_, rfl⟩ | exact Or.inl ⟨rfl, rfl⟩ | exact Or.inl rfl | refine Or.inr ⟨_, _, rfl, Nat.zero_le _, rfl, ?_⟩ | refine ⟨_, _, rfl, ?_, ?_⟩ | refine ⟨_, rfl, ?_⟩ | refine Or.inr (Or.inr (Or.inr ⟨_, _, rfl, ?_⟩)) | exact Or.inl rfl | refine Or.inr ?_)) rfl ?_
      refine br (fun q => ?_) (fun q => ?_)
      · have q : p.name.s ≠ emptyB ∨ plainP p zeroPh = false := by
          have := q
          simp [pickB] at this
          exact this
        rw [if_pos q] at hS
        refine call_p (enters_of Tryz.func164 (by decide +kernel) rfl) (bad_spec 19 h.at') (by repeat' (first | exact rfl | exact trivial | exact Or.inr (Or.inl ⟨_, rfl⟩) | exact Or.inr ⟨_, rfl⟩ | exact Or.inl ⟨rfl, rfl⟩ | exact Or.inl rfl | refine Or.inr ⟨_, _, rfl, Nat.zero_le _, rfl, ?_⟩ | refine ⟨_, _, rfl, ?_, ?_⟩ | refine ⟨_, rfl, ?_⟩ | refine Or.inr (Or.inr (Or.inr ⟨_, _, rfl, ?_⟩)) | exact Or.inl rfl | refine Or.inr ?_)) rfl ?_
        exact ⟨_, _, (by repeat' (first | exact rfl | exact trivial | exact Or.inr (Or.inl ⟨_, rfl⟩) | exact Or.inr ⟨_, rfl⟩ | exact Or.inl ⟨rfl, rfl⟩ | exact Or.inl rfl | refine Or.inr ⟨_, _, rfl, Nat.zero_le _, rfl, ?_⟩ | refine ⟨_, _, rfl, ?_, ?_⟩ | refine ⟨_, rfl, ?_⟩ | refine Or.inr (Or.inr (Or.inr ⟨_, _, rfl, ?_⟩)) | exact Or.inl rfl | refine Or.inr ?_)), (by repeat' (first | exact rfl | exact trivial | exact Or.inr (Or.inl ⟨_, rfl⟩) | exact Or.inr ⟨_, rfl⟩ | exact Or.inl ⟨rfl, rfl⟩ | exact Or.inl rfl | refine Or.inr ⟨_, _, rfl, Nat.zero_le _, rfl, ?_⟩ | refine ⟨_, _, rfl, ?_, ?_⟩ | refine ⟨_, rfl, ?_⟩ | refine Or.inr (Or.inr (Or.inr ⟨_, _, rfl, ?_⟩)) | exact Or.inl rfl | refine Or.inr ?_)), chkR_mk (tk := []) (f := (19, h.at')) hS (fun _ => rfl)⟩
      have q : ¬ (p.name.s ≠ emptyB ∨ plainP p zeroPh = false) := by
        have := q
        simp [pickB] at this
        simp [this.1, this.2]
      rw [if_neg q] at hS
      refine br (fun x => ?_) (fun x => ?_)
      · have x : h.most < 0 ∨ 1024 < h.most := by simpa [pickB_or] using x
        rw [if_pos x] at hS
        refine call_p (enters_of Tryz.func164 (by decide +kernel) rfl) (bad_spec 20 h.at') (by repeat' (first | exact rfl | exact trivial | exact Or.inr (Or.inl ⟨_, rfl⟩) | exact Or.inr ⟨_, rfl⟩ | exact Or.inl ⟨rfl, rfl⟩ | exact Or.inl rfl | refine Or.inr ⟨_, _, rfl, Nat.zero_le _, rfl, ?_⟩ | refine ⟨_, _, rfl, ?_, ?_⟩ | refine ⟨_, rfl, ?_⟩ | refine Or.inr (Or.inr (Or.inr ⟨_, _, rfl, ?_⟩)) | exact Or.inl rfl | refine Or.inr ?_)) rfl ?_
        exact ⟨_, _, (by repeat' (first | exact rfl | exact trivial | exact Or.inr (Or.inl ⟨_, rfl⟩) | exact Or.inr ⟨_, rfl⟩ | exact Or.inl ⟨rfl, rfl⟩ | exact Or.inl rfl | refine Or.inr ⟨_, _, rfl, Nat.zero_le _, rfl, ?_⟩ | refine ⟨_, _, rfl, ?_, ?_⟩ | refine ⟨_, rfl, ?_⟩ | refine Or.inr (Or.inr (Or.inr ⟨_, _, rfl, ?_⟩)) | exact Or.inl rfl | refine Or.inr ?_)), (by repeat' (first | exact rfl | exact trivial | exact Or.inr (Or.inl ⟨_, rfl⟩) | exact Or.inr ⟨_, rfl⟩ | exact Or.inl ⟨rfl, rfl⟩ | exact Or.inl rfl | refine Or.inr ⟨_, _, rfl, Nat.zero_le _, rfl, ?_⟩ | refine ⟨_, _, rfl, ?_, ?_⟩ | refine ⟨_, rfl, ?_⟩ | refine Or.inr (Or.inr (Or.inr ⟨_, _, rfl, ?_⟩)) | exact Or.inl rfl | refine Or.inr ?_)), chkR_mk (tk := []) (f := (20, h.at')) hS (fun _ => rfl)⟩
      have x : ¬ (h.most < 0 ∨ 1024 < h.most) := by simp [pickB_or] at x; omega
      rw [if_neg x] at hS
      refine ⟨_, ⟨by omega, rfl⟩, ?_⟩
      refine call_o (enters_of Tryz.func125 (by decide +kernel) rfl) rfl rfl (by repeat' (first | exact rfl | exact trivial | exact Or.inr (Or.inl ⟨_, rfl⟩) | exact Or.inr ⟨_, rfl⟩ | exact Or.inl ⟨rfl, rfl⟩ | exact Or.inl rfl | refine Or.inr ⟨_, _, rfl, Nat.zero_le _, rfl, ?_⟩ | refine ⟨_, _, rfl, ?_, ?_⟩ | refine ⟨_, rfl, ?_⟩ | refine Or.inr (Or.inr (Or.inr ⟨_, _, rfl, ?_⟩)) | exact Or.inl rfl | refine Or.inr ?_)) (by repeat' (first | exact rfl | exact trivial | exact Or.inr (Or.inl ⟨_, rfl⟩) | exact Or.inr ⟨_, rfl⟩ | exact Or.inl ⟨rfl, rfl⟩ | exact Or.inl rfl | refine Or.inr ⟨_, _, rfl, Nat.zero_le _, rfl, ?_⟩ | refine ⟨_, _, rfl, ?_, ?_⟩ | refine ⟨_, rfl, ?_⟩ | exact congrArg (fun z => DV.v (.int .i64 z)) (wrap64 (by omega) (by omega)) | refine Or.inr (Or.inr (Or.inr ⟨_, _, rfl, ?_⟩)) | exact Or.inl rfl | refine Or.inr ?_)) hih chkR_cl (fun r cs2 hr => ?_)
      obtain ⟨rfl, z, hz, hzz⟩ := hr
      simp only [List.cons.injEq, and_true] at hz
      subst hz
      exact ⟨_, _, (by repeat' (first | exact rfl | exact trivial | exact Or.inr (Or.inl ⟨_, rfl⟩) | exact Or.inr ⟨_, rfl⟩ | exact Or.inl ⟨rfl, rfl⟩ | exact Or.inl rfl | refine Or.inr ⟨_, _, rfl, Nat.zero_le _, rfl, ?_⟩ | refine ⟨_, _, rfl, ?_, ?_⟩ | refine ⟨_, rfl, ?_⟩ | refine Or.inr (Or.inr (Or.inr ⟨_, _, rfl, ?_⟩)) | exact Or.inl rfl | refine Or.inr ?_)), (by repeat' (first | exact rfl | exact trivial | exact Or.inr (Or.inl ⟨_, rfl⟩) | exact Or.inr ⟨_, rfl⟩ | exact Or.inl ⟨rfl, rfl⟩ | exact Or.inl rfl | refine Or.inr ⟨_, _, rfl, Nat.zero_le _, rfl, ?_⟩ | refine ⟨_, _, rfl, ?_, ?_⟩ | refine ⟨_, rfl, ?_⟩ | refine Or.inr (Or.inr (Or.inr ⟨_, _, rfl, ?_⟩)) | exact Or.inl rfl | refine Or.inr ?_)), chkR_mk (tk := []) (f := (wrong (.mk u us) (depth + 1) m).1) hS hzz⟩

theorem kcheck_step (k : Nat) (ih : KChk k) (h : Hd) (ps : Pts) (depth m : Int) (hk : ps.wt ≤ k) (hbig : (Ty.mk h ps).wt ≤ 1099511627776) (hd0 : 0 ≤ depth) (hd1 : depth ≤ 25) (hm0 : 0 ≤ m) (hm1 : m ≤ 512) :
    Ev Tryz.prog 125 [.loc 0 0, .agg (dTy (.mk h ps)), .v (.int .i64 depth)] [[.v (.int .i64 m)]] [] (ChkR (wrong (.mk h ps) depth m)) := by
  have hbig' := hbig
  simp only [Ty.wt, Hd.wt] at hbig'
  have hmw : IntKind.i64.wrap (m + 1) = m + 1 := wrap64 (by omega) (by omega)
  have hS := wrong.eq_def (.mk h ps) depth m
  simp only at hS
  generalize wrong (.mk h ps) depth m = F at hS ⊢
  have hown := kown_spec h ps
  rw [ownF_eq] at hown
  refine ev_go (P := Tryz.prog) tt tt_ok 5000 103 [.cell 6 33] Tryz.func125 rfl Tryz.ntmps125 rfl (Nat.le_of_ble_eq_true rfl) (fun E9 w9 hn9 hm9 => ?_)
  refine br (fun c => ?_) (fun c => ?_)
  · have c : 24 < depth := of_decide_eq_true c
    rw [if_pos c] at hS
    refine call_p (enters_of Tryz.func164 (by decide +kernel) rfl) (bad_spec 6 h.at') (by repeat' (first | exact rfl | exact trivial | exact Or.inr (Or.inl ⟨_, rfl⟩) | exact Or.inr ⟨_, rfl⟩ | exact Or.inl ⟨rfl, rfl⟩ | exact Or.inl rfl | refine Or.inr ⟨_, _, rfl, Nat.zero_le _, rfl, ?_⟩ | refine ⟨_, _, rfl, ?_, ?_⟩ | refine ⟨_, rfl, ?_⟩ | refine Or.inr (Or.inr (Or.inr ⟨_, _, rfl, ?_⟩)) | exact Or.inl rfl | refine Or.inr ?_)) rfl ?_
    exact ⟨_, [[.v (.int .i64 (m + 1))]], (by repeat' (first | exact rfl | exact trivial | exact Or.inr (Or.inl ⟨_, rfl⟩) | exact Or.inr ⟨_, rfl⟩ | exact Or.inl ⟨rfl, rfl⟩ | exact Or.inl rfl | refine Or.inr ⟨_, _, rfl, Nat.zero_le _, rfl, ?_⟩ | refine ⟨_, _, rfl, ?_, ?_⟩ | refine ⟨_, rfl, ?_⟩ | refine Or.inr (Or.inr (Or.inr ⟨_, _, rfl, ?_⟩)) | exact Or.inl rfl | refine Or.inr ?_)), (by repeat' (first | exact rfl | exact trivial | exact Or.inr (Or.inl ⟨_, rfl⟩) | exact Or.inr ⟨_, rfl⟩ | exact Or.inl ⟨rfl, rfl⟩ | exact Or.inl rfl | refine Or.inr ⟨_, _, rfl, Nat.zero_le _, rfl, ?_⟩ | refine ⟨_, _, rfl, ?_, ?_⟩ | refine ⟨_, rfl, ?_⟩ | exact congrArg (fun z => DV.v (.int .i64 z)) hmw | refine Or.inr (Or.inr (Or.inr ⟨_, _, rfl, ?_⟩)) | exact Or.inl rfl | refine Or.inr ?_)), chkR_mk (tk := []) (f := (6, h.at')) hS (fun _ => rfl)⟩
  have c : ¬ 24 < depth := of_decide_eq_false c
  rw [if_neg c] at hS
  refine br (fun c => ?_) (fun c => ?_)
  · have c : 512 < IntKind.i64.wrap (m + 1) := of_decide_eq_true c
    rw [hmw] at c
    rw [if_pos c] at hS
    refine call_p (enters_of Tryz.func164 (by decide +kernel) rfl) (bad_spec 8 h.at') (by repeat' (first | exact rfl | exact trivial | exact Or.inr (Or.inl ⟨_, rfl⟩) | exact Or.inr ⟨_, rfl⟩ | exact Or.inl ⟨rfl, rfl⟩ | exact Or.inl rfl | refine Or.inr ⟨_, _, rfl, Nat.zero_le _, rfl, ?_⟩ | refine ⟨_, _, rfl, ?_, ?_⟩ | refine ⟨_, rfl, ?_⟩ | refine Or.inr (Or.inr (Or.inr ⟨_, _, rfl, ?_⟩)) | exact Or.inl rfl | refine Or.inr ?_)) rfl ?_
    exact ⟨_, [[.v (.int .i64 (m + 1))]], (by repeat' (first | exact rfl | exact trivial | exact Or.inr (Or.inl ⟨_, rfl⟩) | exact Or.inr ⟨_, rfl⟩ | exact Or.inl ⟨rfl, rfl⟩ | exact Or.inl rfl | refine Or.inr ⟨_, _, rfl, Nat.zero_le _, rfl, ?_⟩ | refine ⟨_, _, rfl, ?_, ?_⟩ | refine ⟨_, rfl, ?_⟩ | refine Or.inr (Or.inr (Or.inr ⟨_, _, rfl, ?_⟩)) | exact Or.inl rfl | refine Or.inr ?_)), (by repeat' (first | exact rfl | exact trivial | exact Or.inr (Or.inl ⟨_, rfl⟩) | exact Or.inr ⟨_, rfl⟩ | exact Or.inl ⟨rfl, rfl⟩ | exact Or.inl rfl | refine Or.inr ⟨_, _, rfl, Nat.zero_le _, rfl, ?_⟩ | refine ⟨_, _, rfl, ?_, ?_⟩ | refine ⟨_, rfl, ?_⟩ | exact congrArg (fun z => DV.v (.int .i64 z)) hmw | refine Or.inr (Or.inr (Or.inr ⟨_, _, rfl, ?_⟩)) | exact Or.inl rfl | refine Or.inr ?_)), chkR_mk (tk := []) (f := (8, h.at')) hS (fun _ => rfl)⟩
  have c : ¬ 512 < IntKind.i64.wrap (m + 1) := of_decide_eq_false c
  rw [hmw] at c
  rw [if_neg c] at hS
  refine br (fun c => ?_) (fun c => ?_)
  · have c : h.kind < 1 ∨ 9 < h.kind := by simpa [pickB_or] using c
    rw [if_pos c] at hS
    refine call_p (enters_of Tryz.func164 (by decide +kernel) rfl) (bad_spec 14 h.at') (by repeat' (first | exact rfl | exact trivial | exact Or.inr (Or.inl ⟨_, rfl⟩) | exact Or.inr ⟨_, rfl⟩ | exact Or.inl ⟨rfl, rfl⟩ | exact Or.inl rfl | refine Or.inr ⟨_, _, rfl, Nat.zero_le _, rfl, ?_⟩ | refine ⟨_, _, rfl, ?_, ?_⟩ | refine ⟨_, rfl, ?_⟩ | refine Or.inr (Or.inr (Or.inr ⟨_, _, rfl, ?_⟩)) | exact Or.inl rfl | refine Or.inr ?_)) rfl ?_
    exact ⟨_, [[.v (.int .i64 (m + 1))]], (by repeat' (first | exact rfl | exact trivial | exact Or.inr (Or.inl ⟨_, rfl⟩) | exact Or.inr ⟨_, rfl⟩ | exact Or.inl ⟨rfl, rfl⟩ | exact Or.inl rfl | refine Or.inr ⟨_, _, rfl, Nat.zero_le _, rfl, ?_⟩ | refine ⟨_, _, rfl, ?_, ?_⟩ | refine ⟨_, rfl, ?_⟩ | refine Or.inr (Or.inr (Or.inr ⟨_, _, rfl, ?_⟩)) | exact Or.inl rfl | refine Or.inr ?_)), (by repeat' (first | exact rfl | exact trivial | exact Or.inr (Or.inl ⟨_, rfl⟩) | exact Or.inr ⟨_, rfl⟩ | exact Or.inl ⟨rfl, rfl⟩ | exact Or.inl rfl | refine Or.inr ⟨_, _, rfl, Nat.zero_le _, rfl, ?_⟩ | refine ⟨_, _, rfl, ?_, ?_⟩ | refine ⟨_, rfl, ?_⟩ | exact congrArg (fun z => DV.v (.int .i64 z)) hmw | refine Or.inr (Or.inr (Or.inr ⟨_, _, rfl, ?_⟩)) | exact Or.inl rfl | refine Or.inr ?_)), chkR_mk (tk := []) (f := (14, h.at')) hS (fun _ => rfl)⟩
  have ck : ¬ (h.kind < 1 ∨ 9 < h.kind) := by simp [pickB_or] at c; omega
  rw [if_neg ck] at hS
  refine call_p (enters_of Tryz.func165 (by decide +kernel) rfl) (hown) (by repeat' (first | exact rfl | exact trivial | exact Or.inr (Or.inl ⟨_, rfl⟩) | exact Or.inr ⟨_, rfl⟩ | exact Or.inl ⟨rfl, rfl⟩ | exact Or.inl rfl | refine Or.inr ⟨_, _, rfl, Nat.zero_le _, rfl, ?_⟩ | refine ⟨_, _, rfl, ?_, ?_⟩ | refine ⟨_, rfl, ?_⟩ | refine Or.inr (Or.inr (Or.inr ⟨_, _, rfl, ?_⟩)) | exact Or.inl rfl | refine Or.inr ?_)) rfl ?_
  refine br (fun c => ?_) (fun c => ?_)
  · have c : ownB (.mk h ps) = false := by simpa [ownB] using c
    rw [if_pos c] at hS
    refine call_p (enters_of Tryz.func164 (by decide +kernel) rfl) (bad_spec 19 h.at') (by repeat' (first | exact rfl | exact trivial | exact Or.inr (Or.inl ⟨_, rfl⟩) | exact Or.inr ⟨_, rfl⟩ | exact Or.inl ⟨rfl, rfl⟩ | exact Or.inl rfl | refine Or.inr ⟨_, _, rfl, Nat.zero_le _, rfl, ?_⟩ | refine ⟨_, _, rfl, ?_, ?_⟩ | refine ⟨_, rfl, ?_⟩ | refine Or.inr (Or.inr (Or.inr ⟨_, _, rfl, ?_⟩)) | exact Or.inl rfl | refine Or.inr ?_)) rfl ?_
    exact ⟨_, [[.v (.int .i64 (m + 1))]], (by repeat' (first | exact rfl | exact trivial | exact Or.inr (Or.inl ⟨_, rfl⟩) | exact Or.inr ⟨_, rfl⟩ | exact Or.inl ⟨rfl, rfl⟩ | exact Or.inl rfl | refine Or.inr ⟨_, _, rfl, Nat.zero_le _, rfl, ?_⟩ | refine ⟨_, _, rfl, ?_, ?_⟩ | refine ⟨_, rfl, ?_⟩ | refine Or.inr (Or.inr (Or.inr ⟨_, _, rfl, ?_⟩)) | exact Or.inl rfl | refine Or.inr ?_)), (by repeat' (first | exact rfl | exact trivial | exact Or.inr (Or.inl ⟨_, rfl⟩) | exact Or.inr ⟨_, rfl⟩ | exact Or.inl ⟨rfl, rfl⟩ | exact Or.inl rfl | refine Or.inr ⟨_, _, rfl, Nat.zero_le _, rfl, ?_⟩ | refine ⟨_, _, rfl, ?_, ?_⟩ | refine ⟨_, rfl, ?_⟩ | exact congrArg (fun z => DV.v (.int .i64 z)) hmw | refine Or.inr (Or.inr (Or.inr ⟨_, _, rfl, ?_⟩)) | exact Or.inl rfl | refine Or.inr ?_)), chkR_mk (tk := []) (f := (19, h.at')) hS (fun _ => rfl)⟩
  have c : ¬ ownB (.mk h ps) = false := by simpa [ownB] using c
  rw [if_neg c] at hS
  refine br (fun k2 => ?_) (fun k2 => ?_)
  · have k2 : h.kind = 2 := of_decide_eq_true k2
    refine br (fun x => ?_) (fun x => ?_)
    · have x : h.hi < h.lo := of_decide_eq_true x
      rw [if_pos (.inl ⟨k2, x⟩)] at hS
      refine call_p (enters_of Tryz.func164 (by decide +kernel) rfl) (bad_spec 20 h.at') (by repeat' (first | exact rfl | exact trivial | exact Or.inr (Or.inl ⟨_, rfl⟩) | exact Or.inr ⟨_, rfl⟩ | exact Or.inl ⟨rfl, rfl⟩ | exact Or.inl rfl | refine Or.inr ⟨_, _, rfl, Nat.zero_le _, rfl, ?_⟩ | refine ⟨_, _, rfl, ?_, ?_⟩ | refine ⟨_, rfl, ?_⟩ | refine Or.inr (Or.inr (Or.inr ⟨_, _, rfl, ?_⟩)) | exact Or.inl rfl | refine Or.inr ?_)) rfl ?_
      exact ⟨_, [[.v (.int .i64 (m + 1))]], (by repeat' (first | exact rfl | exact trivial | exact Or.inr (Or.inl ⟨_, rfl⟩) | exact Or.inr ⟨_, rfl⟩ | exact Or.inl ⟨rfl, rfl⟩ | exact Or.inl rfl | refine Or.inr ⟨_, _, rfl, Nat.zero_le _, rfl, ?_⟩ | refine ⟨_, _, rfl, ?_, ?_⟩ | refine ⟨_, rfl, ?_⟩ | refine Or.inr (Or.inr (Or.inr ⟨_, _, rfl, ?_⟩)) | exact Or.inl rfl | refine Or.inr ?_)), (by repeat' (first | exact rfl | exact trivial | exact Or.inr (Or.inl ⟨_, rfl⟩) | exact Or.inr ⟨_, rfl⟩ | exact Or.inl ⟨rfl, rfl⟩ | exact Or.inl rfl | refine Or.inr ⟨_, _, rfl, Nat.zero_le _, rfl, ?_⟩ | refine ⟨_, _, rfl, ?_, ?_⟩ | refine ⟨_, rfl, ?_⟩ | exact congrArg (fun z => DV.v (.int .i64 z)) hmw | refine Or.inr (Or.inr (Or.inr ⟨_, _, rfl, ?_⟩)) | exact Or.inl rfl | refine Or.inr ?_)), chkR_mk (tk := []) (f := (20, h.at')) hS (fun _ => rfl)⟩
    have x : ¬ h.hi < h.lo := of_decide_eq_false x
    rw [if_neg (by omega), if_neg (by omega), if_neg (by omega), if_neg (by omega), if_neg (by omega)] at hS
    exact ⟨_, [[.v (.int .i64 (m + 1))]], (by repeat' (first | exact rfl | exact trivial | exact Or.inr (Or.inl ⟨_, rfl⟩) | exact Or.inr ⟨_, rfl⟩ | exact Or.inl ⟨rfl, rfl⟩ | exact Or.inl rfl | refine Or.inr ⟨_, _, rfl, Nat.zero_le _, rfl, ?_⟩ | refine ⟨_, _, rfl, ?_, ?_⟩ | refine ⟨_, rfl, ?_⟩ | refine Or.inr (Or.inr (Or.inr ⟨_, _, rfl, ?_⟩)) | exact Or.inl rfl | refine Or.inr ?_)), (by repeat' (first | exact rfl | exact trivial | exact Or.inr (Or.inl ⟨_, rfl⟩) | exact Or.inr ⟨_, rfl⟩ | exact Or.inl ⟨rfl, rfl⟩ | exact Or.inl rfl | refine Or.inr ⟨_, _, rfl, Nat.zero_le _, rfl, ?_⟩ | refine ⟨_, _, rfl, ?_, ?_⟩ | refine ⟨_, rfl, ?_⟩ | exact congrArg (fun z => DV.v (.int .i64 z)) hmw | refine Or.inr (Or.inr (Or.inr ⟨_, _, rfl, ?_⟩)) | exact Or.inl rfl | refine Or.inr ?_)), chkR_mk (tk := []) (f := (0, 0)) hS (fun _ => rfl)⟩
  have k2 : ¬ h.kind = 2 := of_decide_eq_false k2
  refine br (fun k3 => ?_) (fun k3 => ?_)
  · have k3 : h.kind = 3 := of_decide_eq_true k3
    refine br (fun x => ?_) (fun x => ?_)
    · have x : h.most < 0 ∨ 4096 < h.most := by simpa [pickB_or] using x
      rw [if_pos (.inr ⟨k3, x⟩)] at hS
      refine call_p (enters_of Tryz.func164 (by decide +kernel) rfl) (bad_spec 20 h.at') (by repeat' (first | exact rfl | exact trivial | exact Or.inr (Or.inl ⟨_, rfl⟩) | exact Or.inr ⟨_, rfl⟩ | exact Or.inl ⟨rfl, rfl⟩ | exact Or.inl rfl | refine Or.inr ⟨_, _, rfl, Nat.zero_le _, rfl, ?_⟩ | refine ⟨_, _, rfl, ?_, ?_⟩ | refine ⟨_, rfl, ?_⟩ | refine Or.inr (Or.inr (Or.inr ⟨_, _, rfl, ?_⟩)) | exact Or.inl rfl | refine Or.inr ?_)) rfl ?_
      exact ⟨_, [[.v (.int .i64 (m + 1))]], (by repeat' (first | exact rfl | exact trivial | exact Or.inr (Or.inl ⟨_, rfl⟩) | exact Or.inr ⟨_, rfl⟩ | exact Or.inl ⟨rfl, rfl⟩ | exact Or.inl rfl | refine Or.inr ⟨_, _, rfl, Nat.zero_le _, rfl, ?_⟩ | refine ⟨_, _, rfl, ?_, ?_⟩ | refine ⟨_, rfl, ?_⟩ | refine Or.inr (Or.inr (Or.inr ⟨_, _, rfl, ?_⟩)) | exact Or.inl rfl | refine Or.inr ?_)), (by repeat' (first | exact rfl | exact trivial | exact Or.inr (Or.inl ⟨_, rfl⟩) | exact Or.inr ⟨_, rfl⟩ | exact Or.inl ⟨rfl, rfl⟩ | exact Or.inl rfl | refine Or.inr ⟨_, _, rfl, Nat.zero_le _, rfl, ?_⟩ | refine ⟨_, _, rfl, ?_, ?_⟩ | refine ⟨_, rfl, ?_⟩ | exact congrArg (fun z => DV.v (.int .i64 z)) hmw | refine Or.inr (Or.inr (Or.inr ⟨_, _, rfl, ?_⟩)) | exact Or.inl rfl | refine Or.inr ?_)), chkR_mk (tk := []) (f := (20, h.at')) hS (fun _ => rfl)⟩
    have x : ¬ (h.most < 0 ∨ 4096 < h.most) := by simp [pickB_or] at x; omega
    rw [if_neg (by omega), if_neg (by omega), if_neg (by omega), if_neg (by omega), if_neg (by omega)] at hS
    exact ⟨_, [[.v (.int .i64 (m + 1))]], (by repeat' (first | exact rfl | exact trivial | exact Or.inr (Or.inl ⟨_, rfl⟩) | exact Or.inr ⟨_, rfl⟩ | exact Or.inl ⟨rfl, rfl⟩ | exact Or.inl rfl | refine Or.inr ⟨_, _, rfl, Nat.zero_le _, rfl, ?_⟩ | refine ⟨_, _, rfl, ?_, ?_⟩ | refine ⟨_, rfl, ?_⟩ | refine Or.inr (Or.inr (Or.inr ⟨_, _, rfl, ?_⟩)) | exact Or.inl rfl | refine Or.inr ?_)), (by repeat' (first | exact rfl | exact trivial | exact Or.inr (Or.inl ⟨_, rfl⟩) | exact Or.inr ⟨_, rfl⟩ | exact Or.inl ⟨rfl, rfl⟩ | exact Or.inl rfl | refine Or.inr ⟨_, _, rfl, Nat.zero_le _, rfl, ?_⟩ | refine ⟨_, _, rfl, ?_, ?_⟩ | refine ⟨_, rfl, ?_⟩ | exact congrArg (fun z => DV.v (.int .i64 z)) hmw | refine Or.inr (Or.inr (Or.inr ⟨_, _, rfl, ?_⟩)) | exact Or.inl rfl | refine Or.inr ?_)), chkR_mk (tk := []) (f := (0, 0)) hS (fun _ => rfl)⟩
  have k3 : ¬ h.kind = 3 := of_decide_eq_false k3
  rw [if_neg (by omega)] at hS
  refine br (fun k4 => ?_) (fun k4 => ?_)
  · have k4 : h.kind = 4 := of_decide_eq_true k4
    rw [if_neg (by omega), if_pos k4, ← kenum_eq] at hS
    refine call_p (enters_of Tryz.func166 (by decide +kernel) rfl) (kenum_spec h ps (by omega)) (by repeat' (first | exact rfl | exact trivial | exact Or.inr (Or.inl ⟨_, rfl⟩) | exact Or.inr ⟨_, rfl⟩ | exact Or.inl ⟨rfl, rfl⟩ | exact Or.inl rfl | refine Or.inr ⟨_, _, rfl, Nat.zero_le _, rfl, ?_⟩ | refine ⟨_, _, rfl, ?_, ?_⟩ | refine ⟨_, rfl, ?_⟩ | refine Or.inr (Or.inr (Or.inr ⟨_, _, rfl, ?_⟩)) | exact Or.inl rfl | refine Or.inr ?_)) rfl ?_
    exact ⟨_, [[.v (.int .i64 (m + 1))]], (by repeat' (first | exact rfl | exact trivial | exact Or.inr (Or.inl ⟨_, rfl⟩) | exact Or.inr ⟨_, rfl⟩ | exact Or.inl ⟨rfl, rfl⟩ | exact Or.inl rfl | refine Or.inr ⟨_, _, rfl, Nat.zero_le _, rfl, ?_⟩ | refine ⟨_, _, rfl, ?_, ?_⟩ | refine ⟨_, rfl, ?_⟩ | refine Or.inr (Or.inr (Or.inr ⟨_, _, rfl, ?_⟩)) | exact Or.inl rfl | refine Or.inr ?_)), (by repeat' (first | exact rfl | exact trivial | exact Or.inr (Or.inl ⟨_, rfl⟩) | exact Or.inr ⟨_, rfl⟩ | exact Or.inl ⟨rfl, rfl⟩ | exact Or.inl rfl | refine Or.inr ⟨_, _, rfl, Nat.zero_le _, rfl, ?_⟩ | refine ⟨_, _, rfl, ?_, ?_⟩ | refine ⟨_, rfl, ?_⟩ | exact congrArg (fun z => DV.v (.int .i64 z)) hmw | refine Or.inr (Or.inr (Or.inr ⟨_, _, rfl, ?_⟩)) | exact Or.inl rfl | refine Or.inr ?_)), chkR_mk (tk := []) (f := kenumF h) hS (fun _ => rfl)⟩
  have k4 : ¬ h.kind = 4 := of_decide_eq_false k4
  refine br (fun k5 => ?_) (fun k5 => ?_)
  · have k5' : h.kind = 5 ∨ h.kind = 6 := .inl (of_decide_eq_true k5)
    rw [if_neg (by omega), if_neg (by omega), if_pos k5'] at hS
    refine br (fun _ => ?_) (fun hc => by rw [k5] at hc; cases hc)
    refine call_o (enters_of Tryz.func167 (by decide +kernel) rfl) rfl rfl (cs' := [.v (.int .i64 (m + 1))]) (by repeat' (first | exact rfl | exact trivial | exact Or.inr (Or.inl ⟨_, rfl⟩) | exact Or.inr ⟨_, rfl⟩ | exact Or.inl ⟨rfl, rfl⟩ | exact Or.inl rfl | refine Or.inr ⟨_, _, rfl, Nat.zero_le _, rfl, ?_⟩ | refine ⟨_, _, rfl, ?_, ?_⟩ | refine ⟨_, rfl, ?_⟩ | exact congrArg (fun z => DV.v (.int .i64 z)) hmw | refine Or.inr (Or.inr (Or.inr ⟨_, _, rfl, ?_⟩)) | exact Or.inl rfl | refine Or.inr ?_)) (by repeat' (first | exact rfl | exact trivial | exact Or.inr (Or.inl ⟨_, rfl⟩) | exact Or.inr ⟨_, rfl⟩ | exact Or.inl ⟨rfl, rfl⟩ | exact Or.inl rfl | refine Or.inr ⟨_, _, rfl, Nat.zero_le _, rfl, ?_⟩ | refine ⟨_, _, rfl, ?_, ?_⟩ | refine ⟨_, rfl, ?_⟩ | refine Or.inr (Or.inr (Or.inr ⟨_, _, rfl, ?_⟩)) | exact Or.inl rfl | refine Or.inr ?_)) (kone_spec k ih h ps depth (m + 1) hk hbig hd0 (by omega) (by omega) (by omega)) chkR_cl (fun r cs2 hr => ?_)
    obtain ⟨rfl, z, hz, hzz⟩ := hr
    simp only [List.cons.injEq, and_true] at hz
    subst hz
    exact ⟨_, _, (by repeat' (first | exact rfl | exact trivial | exact Or.inr (Or.inl ⟨_, rfl⟩) | exact Or.inr ⟨_, rfl⟩ | exact Or.inl ⟨rfl, rfl⟩ | exact Or.inl rfl | refine Or.inr ⟨_, _, rfl, Nat.zero_le _, rfl, ?_⟩ | refine ⟨_, _, rfl, ?_, ?_⟩ | refine ⟨_, rfl, ?_⟩ | refine Or.inr (Or.inr (Or.inr ⟨_, _, rfl, ?_⟩)) | exact Or.inl rfl | refine Or.inr ?_)), (by repeat' (first | exact rfl | exact trivial | exact Or.inr (Or.inl ⟨_, rfl⟩) | exact Or.inr ⟨_, rfl⟩ | exact Or.inl ⟨rfl, rfl⟩ | exact Or.inl rfl | refine Or.inr ⟨_, _, rfl, Nat.zero_le _, rfl, ?_⟩ | refine ⟨_, _, rfl, ?_, ?_⟩ | refine ⟨_, rfl, ?_⟩ | refine Or.inr (Or.inr (Or.inr ⟨_, _, rfl, ?_⟩)) | exact Or.inl rfl | refine Or.inr ?_)), chkR_mk (tk := []) (f := (wrongOne h ps depth (m + 1)).1) hS hzz⟩
  have k5 : ¬ h.kind = 5 := of_decide_eq_false k5
  refine br (fun k6 => ?_) (fun k6 => ?_)
  · have k5' : h.kind = 5 ∨ h.kind = 6 := .inr (of_decide_eq_true k6)
    rw [if_neg (by omega), if_neg (by omega), if_pos k5'] at hS
    refine call_o (enters_of Tryz.func167 (by decide +kernel) rfl) rfl rfl (cs' := [.v (.int .i64 (m + 1))]) (by repeat' (first | exact rfl | exact trivial | exact Or.inr (Or.inl ⟨_, rfl⟩) | exact Or.inr ⟨_, rfl⟩ | exact Or.inl ⟨rfl, rfl⟩ | exact Or.inl rfl | refine Or.inr ⟨_, _, rfl, Nat.zero_le _, rfl, ?_⟩ | refine ⟨_, _, rfl, ?_, ?_⟩ | refine ⟨_, rfl, ?_⟩ | exact congrArg (fun z => DV.v (.int .i64 z)) hmw | refine Or.inr (Or.inr (Or.inr ⟨_, _, rfl, ?_⟩)) | exact Or.inl rfl | refine Or.inr ?_)) (by repeat' (first | exact rfl | exact trivial | exact Or.inr (Or.inl ⟨_, rfl⟩) | exact Or.inr ⟨_, rfl⟩ | exact Or.inl ⟨rfl, rfl⟩ | exact Or.inl rfl | refine Or.inr ⟨_, _, rfl, Nat.zero_le _, rfl, ?_⟩ | refine ⟨_, _, rfl, ?_, ?_⟩ | refine ⟨_, rfl, ?_⟩ | refine Or.inr (Or.inr (Or.inr ⟨_, _, rfl, ?_⟩)) | exact Or.inl rfl | refine Or.inr ?_)) (kone_spec k ih h ps depth (m + 1) hk hbig hd0 (by omega) (by omega) (by omega)) chkR_cl (fun r cs2 hr => ?_)
    obtain ⟨rfl, z, hz, hzz⟩ := hr
    simp only [List.cons.injEq, and_true] at hz
    subst hz
    exact ⟨_, _, (by repeat' (first | exact rfl | exact trivial | exact Or.inr (Or.inl ⟨_, rfl⟩) | exact Or.inr ⟨_, rfl⟩ | exact Or.inl ⟨rfl, rfl⟩ | exact Or.inl rfl | refine Or.inr ⟨_, _, rfl, Nat.zero_le _, rfl, ?_⟩ | refine ⟨_, _, rfl, ?_, ?_⟩ | refine ⟨_, rfl, ?_⟩ | refine Or.inr (Or.inr (Or.inr ⟨_, _, rfl, ?_⟩)) | exact Or.inl rfl | refine Or.inr ?_)), (by repeat' (first | exact rfl | exact trivial | exact Or.inr (Or.inl ⟨_, rfl⟩) | exact Or.inr ⟨_, rfl⟩ | exact Or.inl ⟨rfl, rfl⟩ | exact Or.inl rfl | refine Or.inr ⟨_, _, rfl, Nat.zero_le _, rfl, ?_⟩ | refine ⟨_, _, rfl, ?_, ?_⟩ | refine ⟨_, rfl, ?_⟩ | refine Or.inr (Or.inr (Or.inr ⟨_, _, rfl, ?_⟩)) | exact Or.inl rfl | refine Or.inr ?_)), chkR_mk (tk := []) (f := (wrongOne h ps depth (m + 1)).1) hS hzz⟩
  have k6 : ¬ h.kind = 6 := of_decide_eq_false k6
  have hP : partsF h ps depth (m + 1) = partsF h ps depth (m + 1) := rfl
  conv at hP => lhs; unfold partsF
  refine br (fun k7 => ?_) (fun k7 => ?_)
  · have k7' : h.kind = 7 ∨ h.kind = 8 := .inl (of_decide_eq_true k7)
    rw [if_neg (by omega), if_neg (by omega), if_neg (by omega), if_pos k7', hP] at hS
    refine br (fun _ => ?_) (fun hc => by rw [k7] at hc; cases hc)
    refine call_o (enters_of Tryz.func168 (by decide +kernel) rfl) rfl rfl (cs' := [.v (.int .i64 (m + 1))]) (by repeat' (first | exact rfl | exact trivial | exact Or.inr (Or.inl ⟨_, rfl⟩) | exact Or.inr ⟨_, rfl⟩ | exact Or.inl ⟨rfl, rfl⟩ | exact Or.inl rfl | refine Or.inr ⟨_, _, rfl, Nat.zero_le _, rfl, ?_⟩ | refine ⟨_, _, rfl, ?_, ?_⟩ | refine ⟨_, rfl, ?_⟩ | exact congrArg (fun z => DV.v (.int .i64 z)) hmw | refine Or.inr (Or.inr (Or.inr ⟨_, _, rfl, ?_⟩)) | exact Or.inl rfl | refine Or.inr ?_)) (by repeat' (first | exact rfl | exact trivial | exact Or.inr (Or.inl ⟨_, rfl⟩) | exact Or.inr ⟨_, rfl⟩ | exact Or.inl ⟨rfl, rfl⟩ | exact Or.inl rfl | refine Or.inr ⟨_, _, rfl, Nat.zero_le _, rfl, ?_⟩ | refine ⟨_, _, rfl, ?_, ?_⟩ | refine ⟨_, rfl, ?_⟩ | refine Or.inr (Or.inr (Or.inr ⟨_, _, rfl, ?_⟩)) | exact Or.inl rfl | refine Or.inr ?_)) (kparts_spec k ih h ps depth (m + 1) k7' hk hbig hd0 (by omega) (by omega) (by omega)) chkR_cl (fun r cs2 hr => ?_)
    obtain ⟨rfl, z, hz, hzz⟩ := hr
    simp only [List.cons.injEq, and_true] at hz
    subst hz
    exact ⟨_, _, (by repeat' (first | exact rfl | exact trivial | exact Or.inr (Or.inl ⟨_, rfl⟩) | exact Or.inr ⟨_, rfl⟩ | exact Or.inl ⟨rfl, rfl⟩ | exact Or.inl rfl | refine Or.inr ⟨_, _, rfl, Nat.zero_le _, rfl, ?_⟩ | refine ⟨_, _, rfl, ?_, ?_⟩ | refine ⟨_, rfl, ?_⟩ | refine Or.inr (Or.inr (Or.inr ⟨_, _, rfl, ?_⟩)) | exact Or.inl rfl | refine Or.inr ?_)), (by repeat' (first | exact rfl | exact trivial | exact Or.inr (Or.inl ⟨_, rfl⟩) | exact Or.inr ⟨_, rfl⟩ | exact Or.inl ⟨rfl, rfl⟩ | exact Or.inl rfl | refine Or.inr ⟨_, _, rfl, Nat.zero_le _, rfl, ?_⟩ | refine ⟨_, _, rfl, ?_, ?_⟩ | refine ⟨_, rfl, ?_⟩ | refine Or.inr (Or.inr (Or.inr ⟨_, _, rfl, ?_⟩)) | exact Or.inl rfl | refine Or.inr ?_)), chkR_mk (tk := []) (f := (partsF h ps depth (m + 1)).1) hS hzz⟩
  have k7 : ¬ h.kind = 7 := of_decide_eq_false k7
  refine br (fun k8 => ?_) (fun k8 => ?_)
  · have k7' : h.kind = 7 ∨ h.kind = 8 := .inr (of_decide_eq_true k8)
    rw [if_neg (by omega), if_neg (by omega), if_neg (by omega), if_pos k7', hP] at hS
    refine call_o (enters_of Tryz.func168 (by decide +kernel) rfl) rfl rfl (cs' := [.v (.int .i64 (m + 1))]) (by repeat' (first | exact rfl | exact trivial | exact Or.inr (Or.inl ⟨_, rfl⟩) | exact Or.inr ⟨_, rfl⟩ | exact Or.inl ⟨rfl, rfl⟩ | exact Or.inl rfl | refine Or.inr ⟨_, _, rfl, Nat.zero_le _, rfl, ?_⟩ | refine ⟨_, _, rfl, ?_, ?_⟩ | refine ⟨_, rfl, ?_⟩ | exact congrArg (fun z => DV.v (.int .i64 z)) hmw | refine Or.inr (Or.inr (Or.inr ⟨_, _, rfl, ?_⟩)) | exact Or.inl rfl | refine Or.inr ?_)) (by repeat' (first | exact rfl | exact trivial | exact Or.inr (Or.inl ⟨_, rfl⟩) | exact Or.inr ⟨_, rfl⟩ | exact Or.inl ⟨rfl, rfl⟩ | exact Or.inl rfl | refine Or.inr ⟨_, _, rfl, Nat.zero_le _, rfl, ?_⟩ | refine ⟨_, _, rfl, ?_, ?_⟩ | refine ⟨_, rfl, ?_⟩ | refine Or.inr (Or.inr (Or.inr ⟨_, _, rfl, ?_⟩)) | exact Or.inl rfl | refine Or.inr ?_)) (kparts_spec k ih h ps depth (m + 1) k7' hk hbig hd0 (by omega) (by omega) (by omega)) chkR_cl (fun r cs2 hr => ?_)
    obtain ⟨rfl, z, hz, hzz⟩ := hr
    simp only [List.cons.injEq, and_true] at hz
    subst hz
    exact ⟨_, _, (by repeat' (first | exact rfl | exact trivial | exact Or.inr (Or.inl ⟨_, rfl⟩) | exact Or.inr ⟨_, rfl⟩ | exact Or.inl ⟨rfl, rfl⟩ | exact Or.inl rfl | refine Or.inr ⟨_, _, rfl, Nat.zero_le _, rfl, ?_⟩ | refine ⟨_, _, rfl, ?_, ?_⟩ | refine ⟨_, rfl, ?_⟩ | refine Or.inr (Or.inr (Or.inr ⟨_, _, rfl, ?_⟩)) | exact Or.inl rfl | refine Or.inr ?_)), (by repeat' (first | exact rfl | exact trivial | exact Or.inr (Or.inl ⟨_, rfl⟩) | exact Or.inr ⟨_, rfl⟩ | exact Or.inl ⟨rfl, rfl⟩ | exact Or.inl rfl | refine Or.inr ⟨_, _, rfl, Nat.zero_le _, rfl, ?_⟩ | refine ⟨_, _, rfl, ?_, ?_⟩ | refine ⟨_, rfl, ?_⟩ | refine Or.inr (Or.inr (Or.inr ⟨_, _, rfl, ?_⟩)) | exact Or.inl rfl | refine Or.inr ?_)), chkR_mk (tk := []) (f := (partsF h ps depth (m + 1)).1) hS hzz⟩
  have k8 : ¬ h.kind = 8 := of_decide_eq_false k8
  refine br (fun k9 => ?_) (fun k9 => ?_)
  · have k9 : h.kind = 9 := of_decide_eq_true k9
    refine call_p (enters_of Tryz.func75 (by decide +kernel) rfl) (right_spec h.name.s (by simp only [Wd.wt] at hbig'; omega)) (by repeat' (first | exact rfl | exact trivial | exact Or.inr (Or.inl ⟨_, rfl⟩) | exact Or.inr ⟨_, rfl⟩ | exact Or.inl ⟨rfl, rfl⟩ | exact Or.inl rfl | refine Or.inr ⟨_, _, rfl, Nat.zero_le _, rfl, ?_⟩ | refine ⟨_, _, rfl, ?_, ?_⟩ | refine ⟨_, rfl, ?_⟩ | refine Or.inr (Or.inr (Or.inr ⟨_, _, rfl, ?_⟩)) | exact Or.inl rfl | refine Or.inr ?_)) rfl ?_
    refine br (fun q => ?_) (fun q => ?_)
    · have q : nameOK h.name.s = false := by simpa using q
      rw [if_pos ⟨k9, q⟩] at hS
      refine call_p (enters_of Tryz.func164 (by decide +kernel) rfl) (bad_spec 9 h.name.a) (by repeat' (first | exact rfl | exact trivial | exact Or.inr (Or.inl ⟨_, rfl⟩) | exact Or.inr ⟨_, rfl⟩ | exact Or.inl ⟨rfl, rfl⟩ | exact Or.inl rfl | refine Or.inr ⟨_, _, rfl, Nat.zero_le _, rfl, ?_⟩ | refine ⟨_, _, rfl, ?_, ?_⟩ | refine ⟨_, rfl, ?_⟩ | refine Or.inr (Or.inr (Or.inr ⟨_, _, rfl, ?_⟩)) | exact Or.inl rfl | refine Or.inr ?_)) rfl ?_
      exact ⟨_, [[.v (.int .i64 (m + 1))]], (by repeat' (first | exact rfl | exact trivial | exact Or.inr (Or.inl ⟨_, rfl⟩) | exact Or.inr ⟨_, rfl⟩ | exact Or.inl ⟨rfl, rfl⟩ | exact Or.inl rfl | refine Or.inr ⟨_, _, rfl, Nat.zero_le _, rfl, ?_⟩ | refine ⟨_, _, rfl, ?_, ?_⟩ | refine ⟨_, rfl, ?_⟩ | refine Or.inr (Or.inr (Or.inr ⟨_, _, rfl, ?_⟩)) | exact Or.inl rfl | refine Or.inr ?_)), (by repeat' (first | exact rfl | exact trivial | exact Or.inr (Or.inl ⟨_, rfl⟩) | exact Or.inr ⟨_, rfl⟩ | exact Or.inl ⟨rfl, rfl⟩ | exact Or.inl rfl | refine Or.inr ⟨_, _, rfl, Nat.zero_le _, rfl, ?_⟩ | refine ⟨_, _, rfl, ?_, ?_⟩ | refine ⟨_, rfl, ?_⟩ | exact congrArg (fun z => DV.v (.int .i64 z)) hmw | refine Or.inr (Or.inr (Or.inr ⟨_, _, rfl, ?_⟩)) | exact Or.inl rfl | refine Or.inr ?_)), chkR_mk (tk := []) (f := (9, h.name.a)) hS (fun _ => rfl)⟩
    · have q : nameOK h.name.s = true := by simpa using q
      rw [if_neg (by simp [q]), if_neg (by omega), if_neg (by omega), if_neg (by omega)] at hS
      exact ⟨_, [[.v (.int .i64 (m + 1))]], (by repeat' (first | exact rfl | exact trivial | exact Or.inr (Or.inl ⟨_, rfl⟩) | exact Or.inr ⟨_, rfl⟩ | exact Or.inl ⟨rfl, rfl⟩ | exact Or.inl rfl | refine Or.inr ⟨_, _, rfl, Nat.zero_le _, rfl, ?_⟩ | refine ⟨_, _, rfl, ?_, ?_⟩ | refine ⟨_, rfl, ?_⟩ | refine Or.inr (Or.inr (Or.inr ⟨_, _, rfl, ?_⟩)) | exact Or.inl rfl | refine Or.inr ?_)), (by repeat' (first | exact rfl | exact trivial | exact Or.inr (Or.inl ⟨_, rfl⟩) | exact Or.inr ⟨_, rfl⟩ | exact Or.inl ⟨rfl, rfl⟩ | exact Or.inl rfl | refine Or.inr ⟨_, _, rfl, Nat.zero_le _, rfl, ?_⟩ | refine ⟨_, _, rfl, ?_, ?_⟩ | refine ⟨_, rfl, ?_⟩ | exact congrArg (fun z => DV.v (.int .i64 z)) hmw | refine Or.inr (Or.inr (Or.inr ⟨_, _, rfl, ?_⟩)) | exact Or.inl rfl | refine Or.inr ?_)), chkR_mk (tk := []) (f := (0, 0)) hS (fun _ => rfl)⟩
  have k9 : ¬ h.kind = 9 := of_decide_eq_false k9
  rw [if_neg (by omega), if_neg (by omega), if_neg (by omega), if_neg (by omega)] at hS
  exact ⟨_, [[.v (.int .i64 (m + 1))]], (by repeat' (first | exact rfl | exact trivial | exact Or.inr (Or.inl ⟨_, rfl⟩) | exact Or.inr ⟨_, rfl⟩ | exact Or.inl ⟨rfl, rfl⟩ | exact Or.inl rfl | refine Or.inr ⟨_, _, rfl, Nat.zero_le _, rfl, ?_⟩ | refine ⟨_, _, rfl, ?_, ?_⟩ | refine ⟨_, rfl, ?_⟩ | refine Or.inr (Or.inr (Or.inr ⟨_, _, rfl, ?_⟩)) | exact Or.inl rfl | refine Or.inr ?_)), (by repeat' (first | exact rfl | exact trivial | exact Or.inr (Or.inl ⟨_, rfl⟩) | exact Or.inr ⟨_, rfl⟩ | exact Or.inl ⟨rfl, rfl⟩ | exact Or.inl rfl | refine Or.inr ⟨_, _, rfl, Nat.zero_le _, rfl, ?_⟩ | refine ⟨_, _, rfl, ?_, ?_⟩ | refine ⟨_, rfl, ?_⟩ | exact congrArg (fun z => DV.v (.int .i64 z)) hmw | refine Or.inr (Or.inr (Or.inr ⟨_, _, rfl, ?_⟩)) | exact Or.inl rfl | refine Or.inr ?_)), chkR_mk (tk := []) (f := (0, 0)) hS (fun _ => rfl)⟩

theorem kchk_any : ∀ k, KChk k
  | 0 => fun t depth m hk => by have := t.wt_pos; omega
  | k + 1 => fun t depth m hk hbig hd0 hd1 hm0 hm1 => by
    obtain ⟨h, ps⟩ := t
    have hk' := hk
    simp only [Ty.wt, Hd.wt] at hk'
    exact kcheck_step k (kchk_any k) h ps depth m (by omega) hbig hd0 hd1 hm0 hm1

/-- **kinds.Right.** -/
theorem kright_spec (t : Ty) (hbig : t.wt ≤ 1099511627776) : EvP Tryz.prog 71 [.agg (dTy t)] (wrong t 1 0).1.d :=
  kright_of t (kchk_any t.wt t 1 0 (Nat.le_refl _) hbig (by omega) (by omega) (by omega) (by omega))

/-- **unparse.Type.** -/
theorem utype_spec (t : Ty) (hbig : t.wt ≤ 1099511627776) (hr : rngT t) : EvP Tryz.prog 18 [.agg (dTy t)] (.v (.string (typeT t))) :=
  utype_of t hbig (wrong_fine t 1 0 hr) (kchk_any t.wt t 1 0 (Nat.le_refl _) hbig (by omega) (by omega) (by omega) (by omega))
end Go.Proofs.YtmphiikdhifhjaaGreat
set_option maxRecDepth 100000
namespace Go.Proofs.YtmphiikdhifhjaaGreat
open Go Go.RowKit Dv Tryz

abbrev wrongSt (h : Hd) (ps : Pts) (e : Nat) (depth m : Int) : St :=
  ⟨[(2, ⟨[], .v (.int .i64 depth)⟩), (3, ⟨[], .loc 0 0⟩), (4, ⟨[], .loc 1 0⟩), (6, ⟨[], .loc 2 0⟩), (7, ⟨[], .v (.int .i64 e)⟩)], [[.v (.int .i64 0), .v (.int .i64 0), .v (.int .i64 m)], dTy (.mk h ps), [.v (.int .i64 0), .v (.int .i64 0), .v (.int .i64 0)]], []⟩

theorem wrong15_step (k : Nat) (ih : WrongOK k) (h : Hd) (ps : Pts) (depth m : Int) (hk : ps.wt ≤ k) (hbig : (Ty.mk h ps).wt ≤ 1099511627776) (hd0 : 0 ≤ depth) (hd1 : depth ≤ 25) (hm0 : 0 ≤ m) (hm1 : m ≤ 512) :
    EvP Tryz.prog 16 [wD (0, 0) m, .agg (dTy (.mk h ps)), .v (.int .i64 depth)] (wD (wrong (.mk h ps) depth m).1 (wrong (.mk h ps) depth m).2) := by
  have hbig' := hbig
  simp only [Ty.wt, Hd.wt] at hbig'
  have hpl := ps.wt_len
  have hnw := wdsWt_len h.names
  have hmw : IntKind.i64.wrap (m + 1) = m + 1 := wrap64 (by omega) (by omega)
  have hW : ∀ e a, EvP Tryz.prog 62 [.agg [.v (.int .i64 0), .v (.int .i64 0), .v (.int .i64 (IntKind.i64.wrap (m + 1)))], .v (.int .i64 e), .v (.int .i64 a)] (wD (e, a) (m + 1)) := by
    intro e a; rw [hmw]; exact with15_spec (0, 0) (m + 1) e a
  have hS := wrong.eq_def (.mk h ps) depth m
  simp only at hS
  refine ev_go (P := Tryz.prog) tt tt_ok 5000 201 [.cell 6 35] Tryz.func16 rfl Tryz.ntmps16 rfl (Nat.le_of_ble_eq_true rfl) (fun E9 w9 hn9 hm9 => ?_)
  refine br (fun c => ?_) (fun c => ?_)
  · have c : 24 < depth := of_decide_eq_true c
    refine call_p (enters_of Tryz.func62 (by decide +kernel) rfl) (hW 6 h.at') (by repeat' (first | exact rfl | exact trivial | exact Or.inr (Or.inl ⟨_, rfl⟩) | exact Or.inr ⟨_, rfl⟩ | exact Or.inl ⟨rfl, rfl⟩ | exact Or.inl rfl | refine Or.inr ⟨_, _, rfl, Nat.zero_le _, rfl, ?_⟩ | refine ⟨_, _, rfl, ?_, ?_⟩ | refine ⟨_, rfl, ?_⟩ | refine Or.inr (Or.inr (Or.inr ⟨_, _, rfl, ?_⟩)) | exact Or.inl rfl | refine Or.inr ?_)) rfl ?_
    rw [if_pos c] at hS
    refine ⟨_, ?_, rfl⟩
    rw [hS]
    exact (by repeat' (first | exact rfl | exact trivial | exact Or.inr (Or.inl ⟨_, rfl⟩) | exact Or.inr ⟨_, rfl⟩ | exact Or.inl ⟨rfl, rfl⟩ | exact Or.inl rfl | refine Or.inr ⟨_, _, rfl, Nat.zero_le _, rfl, ?_⟩ | refine ⟨_, _, rfl, ?_, ?_⟩ | refine ⟨_, rfl, ?_⟩ | refine Or.inr (Or.inr (Or.inr ⟨_, _, rfl, ?_⟩)) | exact Or.inl rfl | refine Or.inr ?_))
  have c : ¬ 24 < depth := of_decide_eq_false c
  rw [if_neg c] at hS
  refine br (fun c => ?_) (fun c => ?_)
  · have c : 512 < IntKind.i64.wrap (m + 1) := of_decide_eq_true c
    rw [hmw] at c
    refine call_p (enters_of Tryz.func62 (by decide +kernel) rfl) (hW 8 h.at') (by repeat' (first | exact rfl | exact trivial | exact Or.inr (Or.inl ⟨_, rfl⟩) | exact Or.inr ⟨_, rfl⟩ | exact Or.inl ⟨rfl, rfl⟩ | exact Or.inl rfl | refine Or.inr ⟨_, _, rfl, Nat.zero_le _, rfl, ?_⟩ | refine ⟨_, _, rfl, ?_, ?_⟩ | refine ⟨_, rfl, ?_⟩ | refine Or.inr (Or.inr (Or.inr ⟨_, _, rfl, ?_⟩)) | exact Or.inl rfl | refine Or.inr ?_)) rfl ?_
    rw [if_pos c] at hS
    refine ⟨_, ?_, rfl⟩
    rw [hS]
    exact (by repeat' (first | exact rfl | exact trivial | exact Or.inr (Or.inl ⟨_, rfl⟩) | exact Or.inr ⟨_, rfl⟩ | exact Or.inl ⟨rfl, rfl⟩ | exact Or.inl rfl | refine Or.inr ⟨_, _, rfl, Nat.zero_le _, rfl, ?_⟩ | refine ⟨_, _, rfl, ?_, ?_⟩ | refine ⟨_, rfl, ?_⟩ | refine Or.inr (Or.inr (Or.inr ⟨_, _, rfl, ?_⟩)) | exact Or.inl rfl | refine Or.inr ?_))
  have c : ¬ 512 < IntKind.i64.wrap (m + 1) := of_decide_eq_false c
  rw [hmw] at c
  rw [if_neg c] at hS
  refine br (fun c => ?_) (fun c => ?_)
  · have c : h.kind < 1 ∨ 9 < h.kind := by simpa [pickB_or] using c
    refine call_p (enters_of Tryz.func62 (by decide +kernel) rfl) (hW 14 h.at') (by repeat' (first | exact rfl | exact trivial | exact Or.inr (Or.inl ⟨_, rfl⟩) | exact Or.inr ⟨_, rfl⟩ | exact Or.inl ⟨rfl, rfl⟩ | exact Or.inl rfl | refine Or.inr ⟨_, _, rfl, Nat.zero_le _, rfl, ?_⟩ | refine ⟨_, _, rfl, ?_, ?_⟩ | refine ⟨_, rfl, ?_⟩ | refine Or.inr (Or.inr (Or.inr ⟨_, _, rfl, ?_⟩)) | exact Or.inl rfl | refine Or.inr ?_)) rfl ?_
    rw [if_pos c] at hS
    refine ⟨_, ?_, rfl⟩
    rw [hS]
    exact (by repeat' (first | exact rfl | exact trivial | exact Or.inr (Or.inl ⟨_, rfl⟩) | exact Or.inr ⟨_, rfl⟩ | exact Or.inl ⟨rfl, rfl⟩ | exact Or.inl rfl | refine Or.inr ⟨_, _, rfl, Nat.zero_le _, rfl, ?_⟩ | refine ⟨_, _, rfl, ?_, ?_⟩ | refine ⟨_, rfl, ?_⟩ | refine Or.inr (Or.inr (Or.inr ⟨_, _, rfl, ?_⟩)) | exact Or.inl rfl | refine Or.inr ?_))
  have c : ¬ (h.kind < 1 ∨ 9 < h.kind) := by simp [pickB_or] at c; omega
  rw [if_neg c] at hS
  refine call_p (enters_of Tryz.func63 (by decide +kernel) rfl) (own15_spec (.mk h ps) (by omega)) (by repeat' (first | exact rfl | exact trivial | exact Or.inr (Or.inl ⟨_, rfl⟩) | exact Or.inr ⟨_, rfl⟩ | exact Or.inl ⟨rfl, rfl⟩ | exact Or.inl rfl | refine Or.inr ⟨_, _, rfl, Nat.zero_le _, rfl, ?_⟩ | refine ⟨_, _, rfl, ?_, ?_⟩ | refine ⟨_, rfl, ?_⟩ | refine Or.inr (Or.inr (Or.inr ⟨_, _, rfl, ?_⟩)) | exact Or.inl rfl | refine Or.inr ?_)) rfl ?_
  refine br (fun c => ?_) (fun c => ?_)
  · have c : ownB (.mk h ps) = false := by simpa [ownB] using c
    refine call_p (enters_of Tryz.func62 (by decide +kernel) rfl) (hW 19 h.at') (by repeat' (first | exact rfl | exact trivial | exact Or.inr (Or.inl ⟨_, rfl⟩) | exact Or.inr ⟨_, rfl⟩ | exact Or.inl ⟨rfl, rfl⟩ | exact Or.inl rfl | refine Or.inr ⟨_, _, rfl, Nat.zero_le _, rfl, ?_⟩ | refine ⟨_, _, rfl, ?_, ?_⟩ | refine ⟨_, rfl, ?_⟩ | refine Or.inr (Or.inr (Or.inr ⟨_, _, rfl, ?_⟩)) | exact Or.inl rfl | refine Or.inr ?_)) rfl ?_
    rw [if_pos c] at hS
    refine ⟨_, ?_, rfl⟩
    rw [hS]
    exact (by repeat' (first | exact rfl | exact trivial | exact Or.inr (Or.inl ⟨_, rfl⟩) | exact Or.inr ⟨_, rfl⟩ | exact Or.inl ⟨rfl, rfl⟩ | exact Or.inl rfl | refine Or.inr ⟨_, _, rfl, Nat.zero_le _, rfl, ?_⟩ | refine ⟨_, _, rfl, ?_, ?_⟩ | refine ⟨_, rfl, ?_⟩ | refine Or.inr (Or.inr (Or.inr ⟨_, _, rfl, ?_⟩)) | exact Or.inl rfl | refine Or.inr ?_))
  have c : ¬ ownB (.mk h ps) = false := by simpa [ownB] using c
  rw [if_neg c] at hS
  refine br (fun c => ?_) (fun c => ?_)
  · have c : (h.kind = 2 ∧ h.hi < h.lo) ∨ (h.kind = 3 ∧ (h.most < 0 ∨ 4096 < h.most)) := by simp [pickB_or, pickB_and] at c; omega
    refine call_p (enters_of Tryz.func62 (by decide +kernel) rfl) (hW 20 h.at') (by repeat' (first | exact rfl | exact trivial | exact Or.inr (Or.inl ⟨_, rfl⟩) | exact Or.inr ⟨_, rfl⟩ | exact Or.inl ⟨rfl, rfl⟩ | exact Or.inl rfl | refine Or.inr ⟨_, _, rfl, Nat.zero_le _, rfl, ?_⟩ | refine ⟨_, _, rfl, ?_, ?_⟩ | refine ⟨_, rfl, ?_⟩ | refine Or.inr (Or.inr (Or.inr ⟨_, _, rfl, ?_⟩)) | exact Or.inl rfl | refine Or.inr ?_)) rfl ?_
    rw [if_pos c] at hS
    refine ⟨_, ?_, rfl⟩
    rw [hS]
    exact (by repeat' (first | exact rfl | exact trivial | exact Or.inr (Or.inl ⟨_, rfl⟩) | exact Or.inr ⟨_, rfl⟩ | exact Or.inl ⟨rfl, rfl⟩ | exact Or.inl rfl | refine Or.inr ⟨_, _, rfl, Nat.zero_le _, rfl, ?_⟩ | refine ⟨_, _, rfl, ?_, ?_⟩ | refine ⟨_, rfl, ?_⟩ | refine Or.inr (Or.inr (Or.inr ⟨_, _, rfl, ?_⟩)) | exact Or.inl rfl | refine Or.inr ?_))
  have c : ¬ ((h.kind = 2 ∧ h.hi < h.lo) ∨ (h.kind = 3 ∧ (h.most < 0 ∨ 4096 < h.most))) := by simp [pickB_or, pickB_and] at c; omega
  rw [if_neg c] at hS
  -- what stands behind the check of a name: no record, no union, no list
  refine br (fun k9 => ?_) (fun k9 => ?_)
  · have k9 : h.kind = 9 := by simpa using k9
    refine call_p (enters_of Tryz.func64 (by decide +kernel) rfl) (right8_spec h.name.s (by simp only [Wd.wt] at hbig'; omega)) (by repeat' (first | exact rfl | exact trivial | exact Or.inr (Or.inl ⟨_, rfl⟩) | exact Or.inr ⟨_, rfl⟩ | exact Or.inl ⟨rfl, rfl⟩ | exact Or.inl rfl | refine Or.inr ⟨_, _, rfl, Nat.zero_le _, rfl, ?_⟩ | refine ⟨_, _, rfl, ?_, ?_⟩ | refine ⟨_, rfl, ?_⟩ | refine Or.inr (Or.inr (Or.inr ⟨_, _, rfl, ?_⟩)) | exact Or.inl rfl | refine Or.inr ?_)) rfl ?_
    refine br (fun q => ?_) (fun q => ?_)
    · have q : nameOK h.name.s = false := by simpa [pickB_and, k9] using q
      refine call_p (enters_of Tryz.func62 (by decide +kernel) rfl) (hW 9 h.name.a) (by repeat' (first | exact rfl | exact trivial | exact Or.inr (Or.inl ⟨_, rfl⟩) | exact Or.inr ⟨_, rfl⟩ | exact Or.inl ⟨rfl, rfl⟩ | exact Or.inl rfl | refine Or.inr ⟨_, _, rfl, Nat.zero_le _, rfl, ?_⟩ | refine ⟨_, _, rfl, ?_, ?_⟩ | refine ⟨_, rfl, ?_⟩ | refine Or.inr (Or.inr (Or.inr ⟨_, _, rfl, ?_⟩)) | exact Or.inl rfl | refine Or.inr ?_)) rfl ?_
      rw [if_pos ⟨k9, q⟩] at hS
      refine ⟨_, ?_, rfl⟩
      rw [hS]
      exact (by repeat' (first | exact rfl | exact trivial | exact Or.inr (Or.inl ⟨_, rfl⟩) | exact Or.inr ⟨_, rfl⟩ | exact Or.inl ⟨rfl, rfl⟩ | exact Or.inl rfl | refine Or.inr ⟨_, _, rfl, Nat.zero_le _, rfl, ?_⟩ | refine ⟨_, _, rfl, ?_, ?_⟩ | refine ⟨_, rfl, ?_⟩ | refine Or.inr (Or.inr (Or.inr ⟨_, _, rfl, ?_⟩)) | exact Or.inl rfl | refine Or.inr ?_))
    · have q : nameOK h.name.s = true := by simpa [pickB_and, k9] using q
      rw [if_neg (by simp [q]), if_neg (by omega), if_neg (by omega), if_neg (by omega)] at hS
      refine br (fun x => ?_) (fun _ => ?_)
      · have := of_decide_eq_true x; omega
      refine br (fun x => ?_) (fun _ => ?_)
      · simp [pickB_or] at x; omega
      refine br (fun x => ?_) (fun _ => ?_)
      · simp [pickB_or] at x; omega
      refine ⟨_, ?_, rfl⟩
      rw [hS]
      exact (by repeat' (first | exact rfl | exact trivial | exact Or.inr (Or.inl ⟨_, rfl⟩) | exact Or.inr ⟨_, rfl⟩ | exact Or.inl ⟨rfl, rfl⟩ | exact Or.inl rfl | refine Or.inr ⟨_, _, rfl, Nat.zero_le _, rfl, ?_⟩ | refine ⟨_, _, rfl, ?_, ?_⟩ | refine ⟨_, rfl, ?_⟩ | exact congrArg (fun z => DV.v (.int .i64 z)) hmw | refine Or.inr (Or.inr (Or.inr ⟨_, _, rfl, ?_⟩)) | exact Or.inl rfl | refine Or.inr ?_))
  · have k9 : ¬ h.kind = 9 := by simpa using k9
    rw [if_neg (by simp [k9])] at hS
    refine br (fun k4 => ?_) (fun k4 => ?_)
    · have k4 : h.kind = 4 := of_decide_eq_true k4
      rw [if_pos k4] at hS
      refine br (fun c => ?_) (fun c => ?_)
      · have c : h.names = [] := by simp [dWds_len] at c; exact c
        refine call_p (enters_of Tryz.func62 (by decide +kernel) rfl) (hW 15 h.at') (by repeat' (first | exact rfl | exact trivial | exact Or.inr (Or.inl ⟨_, rfl⟩) | exact Or.inr ⟨_, rfl⟩ | exact Or.inl ⟨rfl, rfl⟩ | exact Or.inl rfl | refine Or.inr ⟨_, _, rfl, Nat.zero_le _, rfl, ?_⟩ | refine ⟨_, _, rfl, ?_, ?_⟩ | refine ⟨_, rfl, ?_⟩ | refine Or.inr (Or.inr (Or.inr ⟨_, _, rfl, ?_⟩)) | exact Or.inl rfl | refine Or.inr ?_)) rfl ?_
        refine ⟨_, ?_, rfl⟩
        rw [hS]
        simp only [enumWd, if_pos c]
        exact (by repeat' (first | exact rfl | exact trivial | exact Or.inr (Or.inl ⟨_, rfl⟩) | exact Or.inr ⟨_, rfl⟩ | exact Or.inl ⟨rfl, rfl⟩ | exact Or.inl rfl | refine Or.inr ⟨_, _, rfl, Nat.zero_le _, rfl, ?_⟩ | refine ⟨_, _, rfl, ?_, ?_⟩ | refine ⟨_, rfl, ?_⟩ | refine Or.inr (Or.inr (Or.inr ⟨_, _, rfl, ?_⟩)) | exact Or.inl rfl | refine Or.inr ?_))
      have c : ¬ h.names = [] := by simp [dWds_len] at c; exact c
      refine br (fun c2 => ?_) (fun c2 => ?_)
      · have hlt : 64 < h.names.length := by simp [dWds_len] at c2; omega
        obtain ⟨x, hx⟩ : ∃ x, h.names[64]? = some x := ⟨_, List.getElem?_eq_getElem hlt⟩
        refine drawG_s mo (by decide +kernel) ?_
        refine ⟨dWd x, ⟨by omega, dWds_get hx⟩, ?_⟩
        refine callD_p (enters_of Tryz.func62 (by decide +kernel) rfl) (hW 8 x.a) (by repeat' (first | exact rfl | exact trivial | exact Or.inr (Or.inl ⟨_, rfl⟩) | exact Or.inr ⟨_, rfl⟩ | exact Or.inl ⟨rfl, rfl⟩ | exact Or.inl rfl | refine Or.inr ⟨_, _, rfl, Nat.zero_le _, rfl, ?_⟩ | refine ⟨_, _, rfl, ?_, ?_⟩ | refine ⟨_, rfl, ?_⟩ | refine Or.inr (Or.inr (Or.inr ⟨_, _, rfl, ?_⟩)) | exact Or.inl rfl | refine Or.inr ?_)) rfl ?_
        refine ⟨_, ?_, rfl⟩
        rw [hS]
        simp only [enumWd, if_neg c, if_pos hlt, hx, Option.getD_some]
        exact (by repeat' (first | exact rfl | exact trivial | exact Or.inr (Or.inl ⟨_, rfl⟩) | exact Or.inr ⟨_, rfl⟩ | exact Or.inl ⟨rfl, rfl⟩ | exact Or.inl rfl | refine Or.inr ⟨_, _, rfl, Nat.zero_le _, rfl, ?_⟩ | refine ⟨_, _, rfl, ?_, ?_⟩ | refine ⟨_, rfl, ?_⟩ | refine Or.inr (Or.inr (Or.inr ⟨_, _, rfl, ?_⟩)) | exact Or.inl rfl | refine Or.inr ?_))
      have c2 : ¬ 64 < h.names.length := by simp [dWds_len] at c2; omega
      have hE : enumWd h = enumL h.names 0 h.names := by simp only [enumWd, if_neg c, if_neg c2]
      rw [hE] at hS
      refine loop_i (fun j st => ∃ (e : Nat), st = wrongSt h ps e depth (m + 1) ∧ e ≤ h.names.length ∧ enumL h.names 0 h.names = enumL h.names e (h.names.drop e) ∧ j = h.names.length - e) h.names.length
        (wrongSt h ps 0 depth (m + 1)) (weak_b 3 rfl (by repeat' (first | exact rfl | exact we_rfl rfl | exact we_int hmw | refine ⟨_, _, rfl, ?_, ?_⟩)) rfl rfl rfl (by repeat' (first | exact trivial | exact we_rfl rfl | exact we_int hmw | refine ⟨⟨_, rfl, ?_⟩, ?_⟩))) ⟨0, rfl, by omega, rfl, by omega⟩ ?_
      rintro j st ⟨e, rfl, he, heq, rfl⟩
      refine br (fun hL => ?_) (fun hL => ?_)
      · have hlt : e < h.names.length := by simpa [dWds_len] using hL
        obtain ⟨x, hx⟩ : ∃ x, h.names[e]? = some x := ⟨_, List.getElem?_eq_getElem hlt⟩
        rw [drop_cons hx] at heq
        simp only [enumL] at heq
        refine call_p (enters_of Tryz.func65 (by decide +kernel) rfl) (listed15_spec h.names e x (by omega) hx) (by repeat' (first | exact rfl | exact trivial | exact Or.inr (Or.inl ⟨_, rfl⟩) | exact Or.inr ⟨_, rfl⟩ | exact Or.inl ⟨rfl, rfl⟩ | exact Or.inl rfl | refine Or.inr ⟨_, _, rfl, Nat.zero_le _, rfl, ?_⟩ | refine ⟨_, _, rfl, ?_, ?_⟩ | refine ⟨_, rfl, ?_⟩ | refine Or.inr (Or.inr (Or.inr ⟨_, _, rfl, ?_⟩)) | exact Or.inl rfl | refine Or.inr ?_)) rfl ?_
        refine br (fun hl => ?_) (fun hl => ?_)
        · have hl : listedF h.names e x ≠ 0 := by simpa using hl
          rw [if_pos hl] at heq
          refine drawG_s mo (by decide +kernel) ?_
          refine ⟨dWd x, ⟨by omega, dWds_get hx⟩, ?_⟩
          refine callD_p (enters_of Tryz.func62 (by decide +kernel) rfl) (with15_spec (0, 0) (m + 1) _ x.a) (by repeat' (first | exact rfl | exact trivial | exact Or.inr (Or.inl ⟨_, rfl⟩) | exact Or.inr ⟨_, rfl⟩ | exact Or.inl ⟨rfl, rfl⟩ | exact Or.inl rfl | refine Or.inr ⟨_, _, rfl, Nat.zero_le _, rfl, ?_⟩ | refine ⟨_, _, rfl, ?_, ?_⟩ | refine ⟨_, rfl, ?_⟩ | refine Or.inr (Or.inr (Or.inr ⟨_, _, rfl, ?_⟩)) | exact Or.inl rfl | refine Or.inr ?_)) rfl ?_
          refine ⟨_, ?_, rfl⟩
          rw [hS, heq]
          exact (by repeat' (first | exact rfl | exact trivial | exact Or.inr (Or.inl ⟨_, rfl⟩) | exact Or.inr ⟨_, rfl⟩ | exact Or.inl ⟨rfl, rfl⟩ | exact Or.inl rfl | refine Or.inr ⟨_, _, rfl, Nat.zero_le _, rfl, ?_⟩ | refine ⟨_, _, rfl, ?_, ?_⟩ | refine ⟨_, rfl, ?_⟩ | refine Or.inr (Or.inr (Or.inr ⟨_, _, rfl, ?_⟩)) | exact Or.inl rfl | refine Or.inr ?_))
        · have hl : listedF h.names e x = 0 := by simpa using hl
          rw [if_neg (by simp [hl])] at heq
          exact ⟨wrongSt h ps (e + 1) depth (m + 1), (weak_mk ⟨_, rfl⟩ (by repeat' (first | exact rfl | exact we_rfl rfl | refine ⟨_, _, rfl, ?_, ?_⟩)) rfl rfl rfl (by repeat' (first | exact trivial | exact we_rfl rfl | exact we_int (nxt hlt (by omega)) | refine ⟨⟨_, rfl, ?_⟩, ?_⟩))), h.names.length - (e + 1), by omega, e + 1, rfl, by omega, heq, rfl⟩
      · have hge : e = h.names.length := by simp [dWds_len] at hL; omega
        rw [hge, List.drop_length] at heq
        simp only [enumL] at heq
        rw [heq] at hS
        refine br (fun x => ?_) (fun _ => ?_)
        · simp [pickB_or] at x; omega
        refine br (fun x => ?_) (fun _ => ?_)
        · simp [pickB_or] at x; omega
        refine ⟨_, ?_, rfl⟩
        rw [hS]
        exact (by repeat' (first | exact rfl | exact trivial | exact Or.inr (Or.inl ⟨_, rfl⟩) | exact Or.inr ⟨_, rfl⟩ | exact Or.inl ⟨rfl, rfl⟩ | exact Or.inl rfl | refine Or.inr ⟨_, _, rfl, Nat.zero_le _, rfl, ?_⟩ | refine ⟨_, _, rfl, ?_, ?_⟩ | refine ⟨_, rfl, ?_⟩ | refine Or.inr (Or.inr (Or.inr ⟨_, _, rfl, ?_⟩)) | exact Or.inl rfl | refine Or.inr ?_))
    · have k4 : ¬ h.kind = 4 := of_decide_eq_false k4
      rw [if_neg k4] at hS
      refine br (fun k5 => ?_) (fun k5 => ?_)
      · have k5 : h.kind = 5 ∨ h.kind = 6 := by simpa [pickB_or] using k5
        rw [if_pos k5] at hS
        cases ps with
        | nil =>
          refine call_p (enters_of Tryz.func62 (by decide +kernel) rfl) (hW 19 h.at') (by repeat' (first | exact rfl | exact trivial | exact Or.inr (Or.inl ⟨_, rfl⟩) | exact Or.inr ⟨_, rfl⟩ | exact Or.inl ⟨rfl, rfl⟩ | exact Or.inl rfl | refine Or.inr ⟨_, _, rfl, Nat.zero_le _, rfl, ?_⟩ | refine ⟨_, _, rfl, ?_, ?_⟩ | refine ⟨_, rfl, ?_⟩ | refine Or.inr (Or.inr (Or.inr ⟨_, _, rfl, ?_⟩)) | exact Or.inl rfl | refine Or.inr ?_)) rfl ?_
          refine ⟨_, ?_, rfl⟩
          rw [hS]
          simp only [wrongOne]
          exact (by repeat' (first | exact rfl | exact trivial | exact Or.inr (Or.inl ⟨_, rfl⟩) | exact Or.inr ⟨_, rfl⟩ | exact Or.inl ⟨rfl, rfl⟩ | exact Or.inl rfl | refine Or.inr ⟨_, _, rfl, Nat.zero_le _, rfl, ?_⟩ | refine ⟨_, _, rfl, ?_, ?_⟩ | refine ⟨_, rfl, ?_⟩ | refine Or.inr (Or.inr (Or.inr ⟨_, _, rfl, ?_⟩)) | exact Or.inl rfl | refine Or.inr ?_))
        | cons p t r =>
          cases r with
          | cons p2 t2 r2 =>
            refine call_p (enters_of Tryz.func62 (by decide +kernel) rfl) (hW 19 h.at') (by repeat' (first | exact rfl | exact trivial | exact Or.inr (Or.inl ⟨_, rfl⟩) | exact Or.inr ⟨_, rfl⟩ | exact Or.inl ⟨rfl, rfl⟩ | exact Or.inl rfl | refine Or.inr ⟨_, _, rfl, Nat.zero_le _, rfl, ?_⟩ | refine ⟨_, _, rfl, ?_, ?_⟩ | refine ⟨_, rfl, ?_⟩ | refine Or.inr (Or.inr (Or.inr ⟨_, _, rfl, ?_⟩)) | exact Or.inl rfl | refine Or.inr ?_)) rfl ?_
            refine ⟨_, ?_, rfl⟩
            rw [hS]
            simp only [wrongOne]
            exact (by repeat' (first | exact rfl | exact trivial | exact Or.inr (Or.inl ⟨_, rfl⟩) | exact Or.inr ⟨_, rfl⟩ | exact Or.inl ⟨rfl, rfl⟩ | exact Or.inl rfl | refine Or.inr ⟨_, _, rfl, Nat.zero_le _, rfl, ?_⟩ | refine ⟨_, _, rfl, ?_, ?_⟩ | refine ⟨_, rfl, ?_⟩ | refine Or.inr (Or.inr (Or.inr ⟨_, _, rfl, ?_⟩)) | exact Or.inl rfl | refine Or.inr ?_))
          | nil =>
            obtain ⟨u, us⟩ := t
            simp only [wrongOne] at hS
            simp only [Ty.wt, Pts.wt] at hbig' hk
            refine ⟨_, ⟨by omega, rfl⟩, ?_⟩
            refine br (fun c => ?_) (fun c => ?_)
            · have c : p.name.s = emptyB := by
                have := c
                simp [pickB_or] at this
                exact this
              refine ⟨_, ⟨by omega, rfl⟩, ?_⟩
              refine call_p (enters_of Tryz.func66 (by decide +kernel) rfl) (plain15_spec p zeroPh (dTy (.mk u us)) (dTy zeroTy) (by omega) (cc_ty _ _ _ _ _) (cc_ty _ _ _ _ _)) (by repeat' (first | exact rfl | exact trivial | exact Or.inr (Or.inl ⟨_, rfl⟩) | exact Or.inr ⟨_, rfl⟩ | exact Or.inl ⟨rfl, rfl⟩ | exact Or.inl rfl | refine Or.inr ⟨_, _, rfl, Nat.zero_le _, rfl, ?_⟩ | refine ⟨_, _, rfl, ?_, ?_⟩ | refine ⟨_, rfl, ?_⟩ | refine Or.inr (Or.inr (Or.inr ⟨_, _, rfl, ?_⟩)) | exact Or.inl rfl | refine Or.inr ?_)) rfl ?_
              refine br (fun q => ?_) (fun q => ?_)
              · have q : plainP p zeroPh = false := by simpa [pickB_or, c] using q
                refine call_p (enters_of Tryz.func62 (by decide +kernel) rfl) (hW 19 h.at') (by repeat' (first | exact rfl | exact trivial | exact Or.inr (Or.inl ⟨_, rfl⟩) | exact Or.inr ⟨_, rfl⟩ | exact Or.inl ⟨rfl, rfl⟩ | exact Or.inl rfl | refine Or.inr ⟨_, _, rfl, Nat.zero_le _, rfl, ?_⟩ | refine ⟨_, _, rfl, ?_, ?_⟩ | refine ⟨_, rfl, ?_⟩ | refine Or.inr (Or.inr (Or.inr ⟨_, _, rfl, ?_⟩)) | exact Or.inl rfl | refine Or.inr ?_)) rfl ?_
                rw [if_pos (by simp [q])] at hS
                refine ⟨_, ?_, rfl⟩
                rw [hS]
                exact (by repeat' (first | exact rfl | exact trivial | exact Or.inr (Or.inl ⟨_, rfl⟩) | exact Or.inr ⟨_, rfl⟩ | exact Or.inl ⟨rfl, rfl⟩ | exact Or.inl rfl | refine Or.inr ⟨_, _, rfl, Nat.zero_le _, rfl, ?_⟩ | refine ⟨_, _, rfl, ?_, ?_⟩ | refine ⟨_, rfl, ?_⟩ | refine Or.inr (Or.inr (Or.inr ⟨_, _, rfl, ?_⟩)) | exact Or.inl rfl | refine Or.inr ?_))
              · have q : plainP p zeroPh = true := by simpa [pickB_or, c] using q
                rw [if_neg (by simp [q, c])] at hS
                refine br (fun x => ?_) (fun x => ?_)
                · have x : h.most < 0 ∨ 1024 < h.most := by simpa [pickB_or] using x
                  refine call_p (enters_of Tryz.func62 (by decide +kernel) rfl) (hW 20 h.at') (by repeat' (first | exact rfl | exact trivial | exact Or.inr (Or.inl ⟨_, rfl⟩) | exact Or.inr ⟨_, rfl⟩ | exact Or.inl ⟨rfl, rfl⟩ | exact Or.inl rfl | refine Or.inr ⟨_, _, rfl, Nat.zero_le _, rfl, ?_⟩ | refine ⟨_, _, rfl, ?_, ?_⟩ | refine ⟨_, rfl, ?_⟩ | refine Or.inr (Or.inr (Or.inr ⟨_, _, rfl, ?_⟩)) | exact Or.inl rfl | refine Or.inr ?_)) rfl ?_
                  rw [if_pos x] at hS
                  refine ⟨_, ?_, rfl⟩
                  rw [hS]
                  exact (by repeat' (first | exact rfl | exact trivial | exact Or.inr (Or.inl ⟨_, rfl⟩) | exact Or.inr ⟨_, rfl⟩ | exact Or.inl ⟨rfl, rfl⟩ | exact Or.inl rfl | refine Or.inr ⟨_, _, rfl, Nat.zero_le _, rfl, ?_⟩ | refine ⟨_, _, rfl, ?_, ?_⟩ | refine ⟨_, rfl, ?_⟩ | refine Or.inr (Or.inr (Or.inr ⟨_, _, rfl, ?_⟩)) | exact Or.inl rfl | refine Or.inr ?_))
                · have x : ¬ (h.most < 0 ∨ 1024 < h.most) := by simp [pickB_or] at x; omega
                  rw [if_neg x] at hS
                  refine drawG_s mo (by decide +kernel) ?_
                  refine ⟨_, ⟨by omega, rfl⟩, ?_⟩
                  refine callD_p (enters_of Tryz.func16 (by decide +kernel) rfl) (ih (.mk u us) (depth + 1) (m + 1) (by simp only [Ty.wt]; omega) (by simp only [Ty.wt]; omega) (by omega) (by omega) (by omega) (by omega)) (by repeat' (first | exact rfl | exact trivial | exact Or.inr (Or.inl ⟨_, rfl⟩) | exact Or.inr ⟨_, rfl⟩ | exact Or.inl ⟨rfl, rfl⟩ | exact Or.inl rfl | refine Or.inr ⟨_, _, rfl, Nat.zero_le _, rfl, ?_⟩ | refine ⟨_, _, rfl, ?_, ?_⟩ | refine ⟨_, rfl, ?_⟩ | exact congrArg (fun z => DV.v (.int .i64 z)) hmw | exact congrArg (fun z => DV.v (.int .i64 z)) (wrap64 (by omega) (by omega))| refine Or.inr (Or.inr (Or.inr ⟨_, _, rfl, ?_⟩)) | exact Or.inl rfl | refine Or.inr ?_)) rfl ?_
                  refine ⟨_, ?_, rfl⟩
                  rw [hS]
                  exact (by repeat' (first | exact rfl | exact trivial | exact Or.inr (Or.inl ⟨_, rfl⟩) | exact Or.inr ⟨_, rfl⟩ | exact Or.inl ⟨rfl, rfl⟩ | exact Or.inl rfl | refine Or.inr ⟨_, _, rfl, Nat.zero_le _, rfl, ?_⟩ | refine ⟨_, _, rfl, ?_, ?_⟩ | refine ⟨_, rfl, ?_⟩ | refine Or.inr (Or.inr (Or.inr ⟨_, _, rfl, ?_⟩)) | exact Or.inl rfl | refine Or.inr ?_))
            · have c : p.name.s ≠ emptyB := by
                have := c
                simp [pickB_or] at this
                exact this
              refine call_p (enters_of Tryz.func62 (by decide +kernel) rfl) (hW 19 h.at') (by repeat' (first | exact rfl | exact trivial | exact Or.inr (Or.inl ⟨_, rfl⟩) | exact Or.inr ⟨_, rfl⟩ | exact Or.inl ⟨rfl, rfl⟩ | exact Or.inl rfl | refine Or.inr ⟨_, _, rfl, Nat.zero_le _, rfl, ?_⟩ | refine ⟨_, _, rfl, ?_, ?_⟩ | refine ⟨_, rfl, ?_⟩ | refine Or.inr (Or.inr (Or.inr ⟨_, _, rfl, ?_⟩)) | exact Or.inl rfl | refine Or.inr ?_)) rfl ?_
              rw [if_pos (.inl c)] at hS
              refine ⟨_, ?_, rfl⟩
              rw [hS]
              exact (by repeat' (first | exact rfl | exact trivial | exact Or.inr (Or.inl ⟨_, rfl⟩) | exact Or.inr ⟨_, rfl⟩ | exact Or.inl ⟨rfl, rfl⟩ | exact Or.inl rfl | refine Or.inr ⟨_, _, rfl, Nat.zero_le _, rfl, ?_⟩ | refine ⟨_, _, rfl, ?_, ?_⟩ | refine ⟨_, rfl, ?_⟩ | refine Or.inr (Or.inr (Or.inr ⟨_, _, rfl, ?_⟩)) | exact Or.inl rfl | refine Or.inr ?_))
      · have k5 : ¬ (h.kind = 5 ∨ h.kind = 6) := by simp [pickB_or] at k5; omega
        rw [if_neg k5] at hS
        refine br (fun k7 => ?_) (fun k7 => ?_)
        · have k7 : h.kind = 7 ∨ h.kind = 8 := by simpa [pickB_or] using k7
          rw [if_pos k7] at hS
          have hP : wrong (.mk h ps) depth m = partsF h ps depth (m + 1) := by rw [hS]; rfl
          refine call_p (enters_of Tryz.func67 (by decide +kernel) rfl) (parts15_spec k ih h ps depth (m + 1) hk hbig hd0 (by omega) (by omega) (by omega)) (by repeat' (first | exact rfl | exact trivial | exact Or.inr (Or.inl ⟨_, rfl⟩) | exact Or.inr ⟨_, rfl⟩ | exact Or.inl ⟨rfl, rfl⟩ | exact Or.inl rfl | refine Or.inr ⟨_, _, rfl, Nat.zero_le _, rfl, ?_⟩ | refine ⟨_, _, rfl, ?_, ?_⟩ | refine ⟨_, rfl, ?_⟩ | exact congrArg (fun z => DV.v (.int .i64 z)) hmw| refine Or.inr (Or.inr (Or.inr ⟨_, _, rfl, ?_⟩)) | exact Or.inl rfl | refine Or.inr ?_)) rfl ?_
          refine ⟨_, ?_, rfl⟩
          rw [hP]
          exact (by repeat' (first | exact rfl | exact trivial | exact Or.inr (Or.inl ⟨_, rfl⟩) | exact Or.inr ⟨_, rfl⟩ | exact Or.inl ⟨rfl, rfl⟩ | exact Or.inl rfl | refine Or.inr ⟨_, _, rfl, Nat.zero_le _, rfl, ?_⟩ | refine ⟨_, _, rfl, ?_, ?_⟩ | refine ⟨_, rfl, ?_⟩ | refine Or.inr (Or.inr (Or.inr ⟨_, _, rfl, ?_⟩)) | exact Or.inl rfl | refine Or.inr ?_))
        · have k7 : ¬ (h.kind = 7 ∨ h.kind = 8) := by simp [pickB_or] at k7; omega
          rw [if_neg k7] at hS
          refine ⟨_, ?_, rfl⟩
          rw [hS]
          exact (by repeat' (first | exact rfl | exact trivial | exact Or.inr (Or.inl ⟨_, rfl⟩) | exact Or.inr ⟨_, rfl⟩ | exact Or.inl ⟨rfl, rfl⟩ | exact Or.inl rfl | refine Or.inr ⟨_, _, rfl, Nat.zero_le _, rfl, ?_⟩ | refine ⟨_, _, rfl, ?_, ?_⟩ | refine ⟨_, rfl, ?_⟩ | exact congrArg (fun z => DV.v (.int .i64 z)) hmw | refine Or.inr (Or.inr (Or.inr ⟨_, _, rfl, ?_⟩)) | exact Or.inl rfl | refine Or.inr ?_))

theorem wrong_any : ∀ k, WrongOK k
  | 0 => fun t depth m hk => by have := t.wt_pos; omega
  | k + 1 => fun t depth m hk hbig hd0 hd1 hm0 hm1 => by
    obtain ⟨h, ps⟩ := t
    have hk' := hk
    simp only [Ty.wt, Hd.wt] at hk'
    exact wrong15_step k (wrong_any k) h ps depth m (by omega) hbig hd0 hd1 hm0 hm1

/-- **The reference's Wrong.** -/
theorem wrong15_spec (t : Ty) (depth m : Int) (hbig : t.wt ≤ 1099511627776) (hd0 : 0 ≤ depth) (hd1 : depth ≤ 25) (hm0 : 0 ≤ m) (hm1 : m ≤ 512) :
    EvP Tryz.prog 16 [wD (0, 0) m, .agg (dTy t), .v (.int .i64 depth)] (wD (wrong t depth m).1 (wrong t depth m).2) :=
  wrong_any t.wt t depth m (Nat.le_refl _) hbig hd0 hd1 hm0 hm1
end Go.Proofs.YtmphiikdhifhjaaGreat
set_option maxRecDepth 100000
namespace Go.Proofs.YtmphiikdhifhjaaGreat
open Go Go.RowKit Dv Tryz

/-- The chapter's example: opt(bool). -/
def liveTy : Ty := .mk ⟨6, 0, 0, 0, 0, [], ⟨emptyB, 0⟩⟩ (.cons zeroPh (.mk ⟨1, 0, 0, 0, 0, [], ⟨emptyB, 0⟩⟩ .nil) .nil)

theorem live_fine : (wrong liveTy 1 0).1.1 = 0 := by
  simp [liveTy, wrong, wrongOne, ownB, sameTy, sameHd, samePts, sameWds, mask, maskHd, plainP, zeroPh]
theorem live_text : typeT liveTy = ⟨#[111, 112, 116, 40, 98, 111, 111, 108, 41]⟩ := by
  unfold typeT
  rw [if_pos live_fine]
  decide +kernel

theorem lives17_spec : EvP Tryz.prog 15 [] (.v (.bool true)) := by
  have hu := utype_spec liveTy (by decide) (by simp [liveTy, rngT, rngP, I64, zeroPh])
  refine ev_go (P := Tryz.prog) tt tt_ok 5000 7 [.tmp 0] Tryz.func15 rfl Tryz.ntmps15 rfl (Nat.le_of_ble_eq_true rfl) (fun E9 w9 hn9 hm9 => ?_)
  refine call_p (enters_of Tryz.func18 (by decide +kernel) rfl) (hu) (by repeat' (first | exact rfl | exact trivial | exact Or.inr (Or.inl ⟨_, rfl⟩) | exact Or.inr ⟨_, rfl⟩ | exact Or.inl ⟨rfl, rfl⟩ | exact Or.inl rfl | refine Or.inr ⟨_, _, rfl, Nat.zero_le _, rfl, ?_⟩ | refine ⟨_, _, rfl, ?_, ?_⟩ | refine ⟨_, rfl, ?_⟩ | refine Or.inr (Or.inr (Or.inr ⟨_, _, rfl, ?_⟩)) | exact Or.inl rfl | refine Or.inr ?_)) rfl ?_
  refine (congrArg (fun b => DV.v (.bool b)) ?_ : _ = _)
  rw [live_text]
  decide +kernel

/-- The law's text of a type. -/
def wantT (t : Ty) : ByteArray := if (wrong t 1 0).1.1 = 0 then ba (tyT t) else ⟨#[]⟩

theorem types17_spec (t : Ty) (hbig : t.wt ≤ 1099511627776) (hr : rngT t) : EvP Tryz.prog 3 [.agg (dTy t)] (.v (.bool true)) := by
  have hs := size15_spec t.wt t (Nat.le_refl _) hbig
  have hw := wrong15_spec t 1 0 hbig (by omega) (by omega) (by omega) (by omega)
  have hu := utype_spec t hbig hr
  have ht := fun h => type17_spec t hbig (wrong_fine t 1 0 hr h)
  have htt : typeT t = if (wrong t 1 0).1.1 = 0 then ba (tyT t) else ⟨#[]⟩ := rfl
  generalize wrong t 1 0 = w at hw ht htt
  obtain ⟨⟨fe, fa⟩, many⟩ := w
  simp only at ht htt
  obtain ⟨h, ps⟩ := t
  refine ev_go (P := Tryz.prog) tt tt_ok 5000 33 [.tmp 2] Tryz.func3 rfl Tryz.ntmps3 rfl (Nat.le_of_ble_eq_true rfl) (fun E9 w9 hn9 hm9 => ?_)
  refine call_p (enters_of Tryz.func14 (by decide +kernel) rfl) (hs) (by repeat' (first | exact rfl | exact trivial | exact Or.inr (Or.inl ⟨_, rfl⟩) | exact Or.inr ⟨_, rfl⟩ | exact Or.inl ⟨rfl, rfl⟩ | exact Or.inl rfl | refine Or.inr ⟨_, _, rfl, Nat.zero_le _, rfl, ?_⟩ | refine ⟨_, _, rfl, ?_, ?_⟩ | refine ⟨_, rfl, ?_⟩ | refine Or.inr (Or.inr (Or.inr ⟨_, _, rfl, ?_⟩)) | exact Or.inl rfl | refine Or.inr ?_)) rfl ?_
  refine br (fun _ => ?_) (fun _ => ?_)
  · refine call_p (enters_of Tryz.func15 (by decide +kernel) rfl) (lives17_spec) (by repeat' (first | exact rfl | exact trivial | exact Or.inr (Or.inl ⟨_, rfl⟩) | exact Or.inr ⟨_, rfl⟩ | exact Or.inl ⟨rfl, rfl⟩ | exact Or.inl rfl | refine Or.inr ⟨_, _, rfl, Nat.zero_le _, rfl, ?_⟩ | refine ⟨_, _, rfl, ?_, ?_⟩ | refine ⟨_, rfl, ?_⟩ | refine Or.inr (Or.inr (Or.inr ⟨_, _, rfl, ?_⟩)) | exact Or.inl rfl | refine Or.inr ?_)) rfl ?_
    exact (rfl : _ = _)
  refine call_p (enters_of Tryz.func16 (by decide +kernel) rfl) (hw) (by repeat' (first | exact rfl | exact trivial | exact Or.inr (Or.inl ⟨_, rfl⟩) | exact Or.inr ⟨_, rfl⟩ | exact Or.inl ⟨rfl, rfl⟩ | exact Or.inl rfl | refine Or.inr ⟨_, _, rfl, Nat.zero_le _, rfl, ?_⟩ | refine ⟨_, _, rfl, ?_, ?_⟩ | refine ⟨_, rfl, ?_⟩ | refine Or.inr (Or.inr (Or.inr ⟨_, _, rfl, ?_⟩)) | exact Or.inl rfl | refine Or.inr ?_)) rfl ?_
  refine br (fun c => ?_) (fun c => ?_)
  · have c : fe = 0 := by simpa using c
    refine call_p (enters_of Tryz.func17 (by decide +kernel) rfl) (ht c) (by repeat' (first | exact rfl | exact trivial | exact Or.inr (Or.inl ⟨_, rfl⟩) | exact Or.inr ⟨_, rfl⟩ | exact Or.inl ⟨rfl, rfl⟩ | exact Or.inl rfl | refine Or.inr ⟨_, _, rfl, Nat.zero_le _, rfl, ?_⟩ | refine ⟨_, _, rfl, ?_, ?_⟩ | refine ⟨_, rfl, ?_⟩ | refine Or.inr (Or.inr (Or.inr ⟨_, _, rfl, ?_⟩)) | exact Or.inl rfl | refine Or.inr ?_)) rfl ?_
    rw [if_pos c] at htt
    rw [htt] at hu
    refine call_p (enters_of Tryz.func18 (by decide +kernel) rfl) (hu) (by repeat' (first | exact rfl | exact trivial | exact Or.inr (Or.inl ⟨_, rfl⟩) | exact Or.inr ⟨_, rfl⟩ | exact Or.inl ⟨rfl, rfl⟩ | exact Or.inl rfl | refine Or.inr ⟨_, _, rfl, Nat.zero_le _, rfl, ?_⟩ | refine ⟨_, _, rfl, ?_, ?_⟩ | refine ⟨_, rfl, ?_⟩ | refine Or.inr (Or.inr (Or.inr ⟨_, _, rfl, ?_⟩)) | exact Or.inl rfl | refine Or.inr ?_)) rfl ?_
    refine br (fun _ => ?_) (fun hc => by simp at hc)
    refine call_p (enters_of Tryz.func15 (by decide +kernel) rfl) (lives17_spec) (by repeat' (first | exact rfl | exact trivial | exact Or.inr (Or.inl ⟨_, rfl⟩) | exact Or.inr ⟨_, rfl⟩ | exact Or.inl ⟨rfl, rfl⟩ | exact Or.inl rfl | refine Or.inr ⟨_, _, rfl, Nat.zero_le _, rfl, ?_⟩ | refine ⟨_, _, rfl, ?_, ?_⟩ | refine ⟨_, rfl, ?_⟩ | refine Or.inr (Or.inr (Or.inr ⟨_, _, rfl, ?_⟩)) | exact Or.inl rfl | refine Or.inr ?_)) rfl ?_
    refine (congrArg (fun b => DV.v (.bool b)) ?_ : _ = _)
    simp [pickB]
  · have c : ¬ fe = 0 := by simpa using c
    rw [if_neg c] at htt
    rw [htt] at hu
    refine call_p (enters_of Tryz.func18 (by decide +kernel) rfl) (hu) (by repeat' (first | exact rfl | exact trivial | exact Or.inr (Or.inl ⟨_, rfl⟩) | exact Or.inr ⟨_, rfl⟩ | exact Or.inl ⟨rfl, rfl⟩ | exact Or.inl rfl | refine Or.inr ⟨_, _, rfl, Nat.zero_le _, rfl, ?_⟩ | refine ⟨_, _, rfl, ?_, ?_⟩ | refine ⟨_, rfl, ?_⟩ | refine Or.inr (Or.inr (Or.inr ⟨_, _, rfl, ?_⟩)) | exact Or.inl rfl | refine Or.inr ?_)) rfl ?_
    refine call_p (enters_of Tryz.func15 (by decide +kernel) rfl) (lives17_spec) (by repeat' (first | exact rfl | exact trivial | exact Or.inr (Or.inl ⟨_, rfl⟩) | exact Or.inr ⟨_, rfl⟩ | exact Or.inl ⟨rfl, rfl⟩ | exact Or.inl rfl | refine Or.inr ⟨_, _, rfl, Nat.zero_le _, rfl, ?_⟩ | refine ⟨_, _, rfl, ?_, ?_⟩ | refine ⟨_, rfl, ?_⟩ | refine Or.inr (Or.inr (Or.inr ⟨_, _, rfl, ?_⟩)) | exact Or.inl rfl | refine Or.inr ?_)) rfl ?_
    refine (congrArg (fun b => DV.v (.bool b)) ?_ : _ = _)
    simp [pickB]
end Go.Proofs.YtmphiikdhifhjaaGreat
