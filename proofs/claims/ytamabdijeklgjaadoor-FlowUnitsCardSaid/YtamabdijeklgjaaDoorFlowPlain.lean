/- FlowPure: the printed law's value is true. -/
import Derived.Test.YtamabdijeklgjaaDoorL4
import Derived.Test.YtamabdijeklgjaaDoorL3
import Derived.Test.YtamabdijeklgjaaDoorGi
namespace Go.Proofs.YtamabdijeklgjaaDoor.Ext
open Go Go.Proofs Go.RowKit
set_option linter.unusedVariables false

theorem wrap_nat {i : Int} (h0 : 0 ≤ i) (h : i ≤ 1000000) : wrap64 i = i := by unfold wrap64; omega
theorem same_loop (l : List US) (hl : l.length ≤ 100000) : ∀ (k i : Nat), i ≤ l.length → l.length < i + k → L.observatorylaw33_same.l0 k l l (i : Int) = some true
  | 0, i, h1, h2 => by omega
  | k + 1, i, h1, h2 => by
    unfold L.observatorylaw33_same.l0
    by_cases hi : (i : Int) < (l.length : Int)
    · rw [if_pos hi, if_pos (by omega), if_pos hi, if_neg (by simp), wrap_nat (by omega) (by omega)]
      exact same_loop l hl k (i + 1) (by omega) (by omega)
    · rw [if_neg hi]
theorem same_self (l : List US) (k : Nat) (hk : l.length < k) (hl : l.length ≤ 100000) : L.observatorylaw33_same.f k l l = some true := by
  unfold L.observatorylaw33_same.f
  rw [if_pos rfl]
  exact same_loop l hl k 0 (Nat.zero_le _) (by omega)
/-! ### the units of a pipeline's first steps -/
theorem unitsL_ext {ins : List US} : ∀ (l : List FS) (us r : List US), unitsL ins l us = (r, 0) → ∃ t, r = us ++ t ∧ t.length = l.length
  | [], us, r, h => by
    rw [unitsL] at h
    injection h with h _
    exact ⟨[], by simp [h], rfl⟩
  | s :: l, us, r, h => by
    rw [unitsL] at h
    split at h
    · rename_i he
      injection h with _ h
      exact absurd h he
    · obtain ⟨t, rfl, ht⟩ := unitsL_ext l _ r h
      exact ⟨(unitOf ins us s).1 :: t, by simp, by simp [ht]⟩
theorem unitsL_take {ins : List US} : ∀ (l : List FS) (us r : List US) (m : Nat), unitsL ins l us = (r, 0) → m ≤ l.length → unitsL ins (l.take m) us = (r.take (us.length + m), 0)
  | l, us, r, 0, h, _ => by
    obtain ⟨t, rfl, _⟩ := unitsL_ext l us r h
    rw [List.take_zero, unitsL, Nat.add_zero, List.take_left]
  | [], us, r, m + 1, h, hm => absurd hm (by simp)
  | s :: l, us, r, m + 1, h, hm => by
    rw [unitsL] at h
    split at h
    · rename_i he
      injection h with _ h
      exact absurd h he
    · rename_i he
      rw [List.take_succ_cons, unitsL, if_neg he]
      have := unitsL_take l _ r m h (by simpa using hm)
      rw [this, List.length_append, List.length_singleton]
      congr 2
      omega
theorem masksL_ext : ∀ (l : List FS) (ms MS : List Bool), masksL l ms = some MS → ∃ t, MS = ms ++ t ∧ t.length = l.length ∧ ∀ (i : Nat) (s : FS), l[i]? = some s → t[i]? = some (oprOf s.f0).makes
  | [], ms, MS, h => by
    rw [masksL] at h
    exact ⟨[], by simp [Option.some.inj h], rfl, fun i s hs => by simp at hs⟩
  | s :: l, ms, MS, h => by
    rw [masksL] at h
    split at h
    · rename_i m hm
      obtain ⟨t, rfl, ht, hk⟩ := masksL_ext l _ MS h
      refine ⟨m :: t, by simp, by simp [ht], fun i x hx => ?_⟩
      cases i with
      | zero =>
        obtain rfl : s = x := by simpa using hx
        unfold stepM at hm
        split at hm
        · simpa using (Option.some.inj hm).symm
        · cases hm
      | succ i =>
        have := hk i x (by simpa using hx)
        simpa using this
    · cases h
theorem masksL_take : ∀ (l : List FS) (ms MS : List Bool) (m : Nat), masksL l ms = some MS → m ≤ l.length → masksL (l.take m) ms = some (MS.take (ms.length + m))
  | l, ms, MS, 0, h, _ => by
    obtain ⟨t, rfl, _⟩ := masksL_ext l ms MS h
    rw [List.take_zero, masksL, Nat.add_zero, List.take_left]
  | [], ms, MS, m + 1, h, hm => absurd hm (by simp)
  | s :: l, ms, MS, m + 1, h, hm => by
    rw [masksL] at h
    split at h
    · rename_i x hx
      rw [List.take_succ_cons, masksL, hx]
      have := masksL_take l _ MS m h (by simpa using hm)
      simp only
      rw [this, List.length_append, List.length_singleton]
      congr 2
      omega
    · cases h
theorem valid_parts {n : List UInt8} {v : Int} {l : List FS} (h : validB n v l = true) : ident n = true ∧ 1 ≤ v ∧ v ≤ 99 ∧ 1 ≤ l.length ∧ l.length ≤ 40 ∧ ∃ MS, masksL l [] = some MS ∧ MS.getLast? = some true := by
  unfold validB at h
  simp only [Bool.and_eq_true, decide_eq_true_eq] at h
  obtain ⟨⟨⟨⟨⟨h1, h2⟩, h3⟩, h4⟩, h5⟩, h6⟩ := h
  refine ⟨h1, h2, h3, h4, h5, ?_⟩
  cases hm : masksL l [] with
  | none => rw [lastM_none hm] at h6; cases h6
  | some MS =>
    rw [lastM_some hm] at h6
    exact ⟨MS, rfl, by simpa using h6⟩
theorem valid_part {n : List UInt8} {v : Int} {l : List FS} (h : validB n v l = true) (k : Nat) (s : FS) (hs : l[k]? = some s) (hm : (oprOf s.f0).makes = true) : validB n v (l.take (k + 1)) = true := by
  obtain ⟨h1, h2, h3, h4, h5, MS, h6, h7⟩ := valid_parts h
  have hk := (List.getElem?_eq_some_iff.1 hs).1
  have ht := masksL_take l [] MS (k + 1) h6 (by omega)
  obtain ⟨t, e, htl, hte⟩ := masksL_ext l [] MS h6
  rw [List.nil_append] at e
  subst e
  have hg : (MS.take (([] : List Bool).length + (k + 1) : Nat)).getLast? = some true := by
    rw [List.getLast?_eq_getElem?, List.length_take, List.length_nil, Nat.zero_add, Nat.min_eq_left (by omega), Nat.add_sub_cancel, List.getElem?_take, if_pos (by omega), hte k s hs, hm]
  unfold validB
  rw [lastM_some ht, hg, h1, decide_eq_true h2, decide_eq_true h3, List.length_take, Nat.min_eq_left (by omega)]
  simp
  omega
/-! ### units whose exponents are 0 -/
theorem unitOf_zero {ins us : List US} (h1 : ∀ u ∈ ins, u = us0) (h2 : ∀ u ∈ us, u = us0) (s : FS) : unitOf ins us s = (us0, 0) := by
  have g : ∀ (l : List US), (∀ u ∈ l, u = us0) → ∀ i, l.getD i us0 = us0 := fun l h i => by
    rw [List.getD_eq_getElem?_getD]
    cases e : l[i]? with
    | none => rfl
    | some x => exact h x (List.mem_of_getElem? e)
  unfold unitOf
  rw [g ins h1, g us h2, g us h2]
  have e1 : mulE us0 us0 = (us0, 0) := by kernel_rfl
  have e2 : sameU us0 us0 = true := by decide
  rw [e1, e2, if_pos rfl]
  repeat' split
  all_goals rfl
theorem unitsL_zero {ins : List US} (h1 : ∀ u ∈ ins, u = us0) : ∀ (l : List FS) (us : List US), (∀ u ∈ us, u = us0) → unitsL ins l us = (us ++ List.replicate l.length us0, 0)
  | [], us, h2 => by rw [unitsL]; simp
  | s :: l, us, h2 => by
    rw [unitsL, unitOf_zero h1 h2 s, if_neg (fun k => k rfl)]
    rw [unitsL_zero h1 l (us ++ [us0]) (fun u hu => by
      rcases List.mem_append.1 hu with hu | hu
      · exact h2 u hu
      · simpa using hu)]
    rw [List.length_cons, List.replicate_succ, List.append_assoc]
    rfl
theorem mask_f {s : FS} (h : isOp s.f0 = true) : L.observatoryref33_Mask.f s.f0 = some (oprOf s.f0).makes := by
  obtain ⟨k, a, b, c⟩ := s
  simp only at h ⊢
  rcases isOp_cases h with rfl | rfl | rfl | rfl | rfl | rfl | rfl | rfl | rfl | rfl <;> decide
theorem pure_plain (n : ByteArray) (v : Int) (l : List FS) (ins : List US) (raw : Int) (h0 : 0 ≤ raw) (h1 : raw ≤ 255) : L.observatorylaw33_FlowPure.f 100 n v l ins raw = some true := by
  have hz : (List.replicate 4 L.z34 : List US) = List.replicate 4 us0 := rfl
  unfold L.observatorylaw33_FlowPure.f head33.f flow_Valid.f
  have j0t : ∀ x7 : Bool, L.observatorylaw33_FlowPure.j0 100 ins raw x7 true n v l = some x7 := fun x7 => by
    rw [show L.observatorylaw33_FlowPure.j0 100 = L.observatorylaw33_FlowPure.j0 (99 + 1) from rfl, L.observatorylaw33_FlowPure.j0, if_pos rfl]
  rw [Option.bind_some]
  unfold L.observatoryref33_Few.f
  split
  · rw [Option.bind_some]
    split
    · rw [Option.bind_some]
      cases hv : validB n.data.toList v l with
      | false => rw [if_neg (by simp)]; exact j0t true
      | true =>
        rw [if_pos rfl]
        obtain ⟨_, _, _, hl1, hl40, MS, hMS, _⟩ := valid_parts hv
        have hl0 : ((l.length : Int) == 0) = false := beq_eq_false_iff_ne.mpr (by omega)
        rw [hl0]
        rw [show L.observatorylaw33_FlowPure.j0 100 = L.observatorylaw33_FlowPure.j0 (99 + 1) from rfl, L.observatorylaw33_FlowPure.j0]
        rw [if_neg (by simp), if_pos (by omega), hz]
        have hp : flow_Units.f n v l (List.replicate 4 us0) = some (List.replicate l.length us0, 0) := by
          unfold flow_Units.f unitsE
          have hall : ∀ u ∈ List.replicate 4 us0, u = us0 := fun u hu => (List.mem_replicate.1 hu).2
          rw [if_pos ⟨hv, rfl, fun u hu => by rw [hall u hu]; decide⟩, unitsL_zero hall l [] (fun u hu => by simp at hu), List.nil_append]
        rw [hp, Option.bind_some]
        simp only
        rw [if_pos trivial, if_pos (by omega), if_pos (by omega), Int.toNat_natCast]
        rw [show (List.replicate l.length L.z34 : List US) = List.replicate l.length us0 from rfl, same_self _ 99 (by simp; omega) (by simp; omega), Option.bind_some, Bool.not_true]
        rw [show L.observatorylaw33_FlowPure.j1 99 = L.observatorylaw33_FlowPure.j1 (98 + 1) from rfl, L.observatorylaw33_FlowPure.j1]
        obtain ⟨kk, hk, hkl⟩ : ∃ kk : Nat, Int.tmod (wrap64 raw) (l.length : Int) = (kk : Int) ∧ kk < l.length := by
          rw [wrap_nat h0 (by omega), Int.tmod_eq_emod_of_nonneg h0]
          refine ⟨(raw % (l.length : Int)).toNat, ?_, ?_⟩
          · have := Int.emod_nonneg raw (show (l.length : Int) ≠ 0 by omega)
            omega
          · have := Int.emod_nonneg raw (show (l.length : Int) ≠ 0 by omega)
            have := Int.emod_lt_of_pos raw (show (0 : Int) < l.length by omega)
            omega
        rw [hk, wrap_nat (show 0 ≤ (kk : Int) + 1 by omega) (by omega), if_neg (by simp), if_neg (by omega), if_pos (by omega), if_pos (by omega)]
        obtain ⟨s, hs⟩ : ∃ s, l[kk]? = some s := ⟨_, List.getElem?_eq_getElem hkl⟩
        have hrd : L.rd_T32 l (kk : Int) = s := by
          unfold L.rd_T32
          rw [Int.toNat_natCast, List.getD_eq_getElem?_getD, hs]
          rfl
        obtain ⟨ms, m, _, hsm⟩ := masks_at l [] MS kk s hMS hs
        rw [hrd, mask_f (stepM_args hsm).1, Option.bind_some]
        split
        · rename_i hm
          rw [if_pos (by omega), if_pos (by omega), Option.bind_some, show ((kk : Int) + 1).toNat = kk + 1 by omega]
          have hvp := valid_part hv kk s hs hm
          unfold flow_Units.f flow_Valid.f
          rw [Option.bind_some, Option.bind_some, Option.bind_some, hvp, if_pos rfl]
          split
          · rename_i h27
            have hU : validB n.data.toList v l = true ∧ ins.length = 4 ∧ (∀ u ∈ ins, okUS u) := by
              by_cases hc : validB n.data.toList v l = true ∧ ins.length = 4 ∧ (∀ u ∈ ins, okUS u)
              · exact hc
              · unfold unitsE at h27
                rw [if_neg hc] at h27
                exact absurd h27 (by decide)
            obtain ⟨R, e, hR⟩ : ∃ R e, unitsL ins l [] = (R, e) := ⟨_, _, rfl⟩
            have hE : unitsE n.data.toList v l ins = (R, e) := by unfold unitsE; rw [if_pos hU, hR]
            rw [hE] at h27 ⊢
            have h27' : e = 0 := h27
            subst h27'
            obtain ⟨t, ht, htl⟩ := unitsL_ext l [] R hR
            rw [List.nil_append] at ht
            subst ht
            have hP : unitsE n.data.toList v (l.take (kk + 1)) ins = (R.take (kk + 1), 0) := by
              unfold unitsE
              rw [if_pos ⟨hvp, hU.2⟩, unitsL_take l [] R (kk + 1) hR (by omega), List.length_nil, Nat.zero_add]
            rw [hP]
            simp only
            rw [if_pos trivial, if_pos (by rw [htl]), if_pos trivial, if_pos (by omega), same_self _ 98 (by rw [List.length_take]; omega) (by rw [List.length_take]; omega), Option.bind_some]
          · rfl
        · rfl
    · exact j0t true
  · rw [Option.bind_some, if_neg (by simp)]
    exact j0t true
end Go.Proofs.YtamabdijeklgjaaDoor.Ext
