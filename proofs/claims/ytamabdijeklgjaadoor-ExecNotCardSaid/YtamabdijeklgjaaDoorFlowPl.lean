/- What the laws on pipelines ask of the plain answers. -/
import Derived.Test.YtamabdijeklgjaaDoorL3
import Derived.Test.YtamabdijeklgjaaDoorGi
namespace Go.Proofs.YtamabdijeklgjaaDoor.Ext
open Go Go.Proofs Go.RowKit
set_option linter.unusedVariables false

theorem wrap_nat {i : Int} (h0 : 0 ≤ i) (h : i ≤ 1000000) : wrap64 i = i := by unfold wrap64; omega
theorem same_loop (l : List US) (hl : l.length ≤ 100000) : ∀ (k i : Nat), i ≤ l.length → l.length < i + k → L.observatorylaw33_same.l0 k l l (i : Int) = some true
  | 0, i, h1, h2 => by omega
  | k + 1, i, h1, h2 => by
    unfold L.observatorylaw33_same.l0
    by_cases hi : (i : Int) < (l.length : Int)
    · rw [if_pos hi, if_pos (by omega), if_pos hi, if_neg (by simp), wrap_nat (by omega) (by omega)]
      exact same_loop l hl k (i + 1) (by omega) (by omega)
    · rw [if_neg hi]
theorem same_self (l : List US) (k : Nat) (hk : l.length < k) (hl : l.length ≤ 100000) : L.observatorylaw33_same.f k l l = some true := by
  unfold L.observatorylaw33_same.f
  rw [if_pos rfl]
  exact same_loop l hl k 0 (Nat.zero_le _) (by omega)
/-! ### the units of a pipeline's first steps -/
theorem unitsL_ext {ins : List US} : ∀ (l : List FS) (us r : List US), unitsL ins l us = (r, 0) → ∃ t, r = us ++ t ∧ t.length = l.length
  | [], us, r, h => by
    rw [unitsL] at h
    injection h with h _
    exact ⟨[], by simp [h], rfl⟩
  | s :: l, us, r, h => by
    rw [unitsL] at h
    split at h
    · rename_i he
      injection h with _ h
      exact absurd h he
    · obtain ⟨t, rfl, ht⟩ := unitsL_ext l _ r h
      exact ⟨(unitOf ins us s).1 :: t, by simp, by simp [ht]⟩
theorem unitsL_take {ins : List US} : ∀ (l : List FS) (us r : List US) (m : Nat), unitsL ins l us = (r, 0) → m ≤ l.length → unitsL ins (l.take m) us = (r.take (us.length + m), 0)
  | l, us, r, 0, h, _ => by
    obtain ⟨t, rfl, _⟩ := unitsL_ext l us r h
    rw [List.take_zero, unitsL, Nat.add_zero, List.take_left]
  | [], us, r, m + 1, h, hm => absurd hm (by simp)
  | s :: l, us, r, m + 1, h, hm => by
    rw [unitsL] at h
    split at h
    · rename_i he
      injection h with _ h
      exact absurd h he
    · rename_i he
      rw [List.take_succ_cons, unitsL, if_neg he]
      have := unitsL_take l _ r m h (by simpa using hm)
      rw [this, List.length_append, List.length_singleton]
      congr 2
      omega
theorem masksL_ext : ∀ (l : List FS) (ms MS : List Bool), masksL l ms = some MS → ∃ t, MS = ms ++ t ∧ t.length = l.length ∧ ∀ (i : Nat) (s : FS), l[i]? = some s → t[i]? = some (oprOf s.f0).makes
  | [], ms, MS, h => by
    rw [masksL] at h
    exact ⟨[], by simp [Option.some.inj h], rfl, fun i s hs => by simp at hs⟩
  | s :: l, ms, MS, h => by
    rw [masksL] at h
    split at h
    · rename_i m hm
      obtain ⟨t, rfl, ht, hk⟩ := masksL_ext l _ MS h
      refine ⟨m :: t, by simp, by simp [ht], fun i x hx => ?_⟩
      cases i with
      | zero =>
        obtain rfl : s = x := by simpa using hx
        unfold stepM at hm
        split at hm
        · simpa using (Option.some.inj hm).symm
        · cases hm
      | succ i =>
        have := hk i x (by simpa using hx)
        simpa using this
    · cases h
theorem masksL_take : ∀ (l : List FS) (ms MS : List Bool) (m : Nat), masksL l ms = some MS → m ≤ l.length → masksL (l.take m) ms = some (MS.take (ms.length + m))
  | l, ms, MS, 0, h, _ => by
    obtain ⟨t, rfl, _⟩ := masksL_ext l ms MS h
    rw [List.take_zero, masksL, Nat.add_zero, List.take_left]
  | [], ms, MS, m + 1, h, hm => absurd hm (by simp)
  | s :: l, ms, MS, m + 1, h, hm => by
    rw [masksL] at h
    split at h
    · rename_i x hx
      rw [List.take_succ_cons, masksL, hx]
      have := masksL_take l _ MS m h (by simpa using hm)
      simp only
      rw [this, List.length_append, List.length_singleton]
      congr 2
      omega
    · cases h
theorem valid_parts {n : List UInt8} {v : Int} {l : List FS} (h : validB n v l = true) : ident n = true ∧ 1 ≤ v ∧ v ≤ 99 ∧ 1 ≤ l.length ∧ l.length ≤ 40 ∧ ∃ MS, masksL l [] = some MS ∧ MS.getLast? = some true := by
  unfold validB at h
  simp only [Bool.and_eq_true, decide_eq_true_eq] at h
  obtain ⟨⟨⟨⟨⟨h1, h2⟩, h3⟩, h4⟩, h5⟩, h6⟩ := h
  refine ⟨h1, h2, h3, h4, h5, ?_⟩
  cases hm : masksL l [] with
  | none => rw [lastM_none hm] at h6; cases h6
  | some MS =>
    rw [lastM_some hm] at h6
    exact ⟨MS, rfl, by simpa using h6⟩
theorem valid_part {n : List UInt8} {v : Int} {l : List FS} (h : validB n v l = true) (k : Nat) (s : FS) (hs : l[k]? = some s) (hm : (oprOf s.f0).makes = true) : validB n v (l.take (k + 1)) = true := by
  obtain ⟨h1, h2, h3, h4, h5, MS, h6, h7⟩ := valid_parts h
  have hk := (List.getElem?_eq_some_iff.1 hs).1
  have ht := masksL_take l [] MS (k + 1) h6 (by omega)
  obtain ⟨t, e, htl, hte⟩ := masksL_ext l [] MS h6
  rw [List.nil_append] at e
  subst e
  have hg : (MS.take (([] : List Bool).length + (k + 1) : Nat)).getLast? = some true := by
    rw [List.getLast?_eq_getElem?, List.length_take, List.length_nil, Nat.zero_add, Nat.min_eq_left (by omega), Nat.add_sub_cancel, List.getElem?_take, if_pos (by omega), hte k s hs, hm]
  unfold validB
  rw [lastM_some ht, hg, h1, decide_eq_true h2, decide_eq_true h3, List.length_take, Nat.min_eq_left (by omega)]
  simp
  omega
theorem mask_f {s : FS} (h : isOp s.f0 = true) : L.observatoryref33_Mask.f s.f0 = some (oprOf s.f0).makes := by
  obtain ⟨k, a, b, c⟩ := s
  simp only at h ⊢
  rcases isOp_cases h with rfl | rfl | rfl | rfl | rfl | rfl | rfl | rfl | rfl | rfl <;> decide
end Go.Proofs.YtamabdijeklgjaaDoor.Ext
