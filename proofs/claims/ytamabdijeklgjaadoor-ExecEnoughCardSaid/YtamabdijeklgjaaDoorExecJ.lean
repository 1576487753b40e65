/- What the laws on execution ask of the plain answers. -/
import Derived.Test.YtamabdijeklgjaaDoorExecF
namespace Go.Proofs.YtamabdijeklgjaaDoor.Ext
open Go Go.Proofs
set_option linter.unusedVariables false

theorem last_mask {P : Int → Prop} {l : List FS} {MS : List Bool} {V : List Int} (hm : masksL l [] = some MS) (hg : MS.getLast? = some true) (h : Msk P MS (MS.length * 4) V) : ∀ j, j < 4 → P (V.getD ((l.length - 1) * 4 + j) 0) := by
  intro j hj
  obtain ⟨t, ht, htl, _⟩ := masksL_ext l [] MS hm
  rw [List.nil_append] at ht
  subst ht
  rw [List.getLast?_eq_getElem?] at hg
  have hl := (List.getElem?_eq_some_iff.1 hg).1
  refine h _ (by omega) ?_
  rw [show ((l.length - 1) * 4 + j) / 4 = MS.length - 1 by omega]
  exact hg
theorem last_vals {V : List Int} {n : Nat} (h : V.length = n * 4) (h1 : 1 ≤ n) : (V.drop ((n - 1) * 4)).take 4 = [V.getD ((n - 1) * 4) 0, V.getD ((n - 1) * 4 + 1) 0, V.getD ((n - 1) * 4 + 2) 0, V.getD ((n - 1) * 4 + 3) 0] :=
  drop_four (by omega)
/-- valid for a run, but for the budget -/
def RunOk (n : List UInt8) (v : Int) (l : List FS) (ni : Nat) (I : List Int) : Prop := validB n v l = true ∧ ni = 4 ∧ I.all (fun n => !farE n) = true
theorem run_bad {n : List UInt8} {v : Int} {l : List FS} {ni : Nat} {I : List Int} (h : ¬ RunOk n v l ni I) (b : Int) : runE n v l ni I b = ([0, 0, 0, 0], 0, 1) := by
  unfold runE
  rw [if_neg (fun k => h ⟨k.1, k.2.1, k.2.2.2⟩)]
theorem run_ok {n : List UInt8} {v : Int} {l : List FS} {ni : Nat} {I : List Int} (h : RunOk n v l ni I) {b : Int} (hb : 0 ≤ b) : Ends (runE n v l ni I b) l.length (stepsE I b l 0 (startE l.length)) := by
  unfold runE Ends
  rw [if_pos ⟨h.1, h.2.1, hb, h.2.2⟩]
  cases stepsE I b l 0 (startE l.length) <;> rfl
theorem run_range {n : List UInt8} {v : Int} {l : List FS} {ni : Nat} {I : List Int} (h : RunOk n v l ni I) {b : Int} (hb : 0 ≤ b) (hs : stepsE I b l 0 (startE l.length) = none) : runE n v l ni I b = ([0, 0, 0, 0], 0, 9) := by
  have := run_ok h hb
  rw [hs] at this
  exact this
theorem run_some {n : List UInt8} {v : Int} {l : List FS} {ni : Nat} {I : List Int} (h : RunOk n v l ni I) {b : Int} (hb : 0 ≤ b) {y : EX} (hs : stepsE I b l 0 (startE l.length) = some y) :
    runE n v l ni I b = ([y.v.getD ((l.length - 1) * 4) 0, y.v.getD ((l.length - 1) * 4 + 1) 0, y.v.getD ((l.length - 1) * 4 + 2) 0, y.v.getD ((l.length - 1) * 4 + 3) 0], y.used, 0) := by
  have h1 := run_ok h hb
  rw [hs] at h1
  obtain ⟨_, _, _, hl1, _, MS, hMS, _⟩ := valid_parts h.1
  unfold Ends at h1
  simp only at h1
  rw [h1, last_vals (steps_bit3 hMS hs).1 hl1]
theorem full_of {n : List UInt8} {v : Int} {l : List FS} {ni : Nat} {I : List Int} {r : List Int} {u e : Int} (h : runE n v l ni I (4 * (l.length : Int)) = (r, u, e)) : fullE n v l ni I = if e = 0 then (r.map (· == 1), 0) else ([false, false, false, false], e) := by
  unfold fullE
  rw [h]
theorem enough_cases (n : List UInt8) (v : Int) (l : List FS) (ni : Nat) (I : List Int) (more : Int) (hm : 0 ≤ more) :
    (runE n v l ni I (4 * (l.length : Int) + more) = ([0, 0, 0, 0], 0, 1) ∧ fullE n v l ni I = ([false, false, false, false], 1) ∧ runE n v l ni I 0 = ([0, 0, 0, 0], 0, 1)) ∨
    (runE n v l ni I (4 * (l.length : Int) + more) = ([0, 0, 0, 0], 0, 9) ∧ fullE n v l ni I = ([false, false, false, false], 9) ∧ runE n v l ni I 0 = ([2, 2, 2, 2], 0, 0)) ∨
    (∃ a0 a1 a2 a3 u : Int, Bit2 a0 ∧ Bit2 a1 ∧ Bit2 a2 ∧ Bit2 a3 ∧ runE n v l ni I (4 * (l.length : Int) + more) = ([a0, a1, a2, a3], u, 0) ∧ fullE n v l ni I = ([a0 == 1, a1 == 1, a2 == 1, a3 == 1], 0) ∧ runE n v l ni I 0 = ([2, 2, 2, 2], 0, 0)) := by
  by_cases hok : RunOk n v l ni I
  · right
    obtain ⟨_, _, _, hl1, _, MS, hMS, hg⟩ := valid_parts hok.1
    have h0 : runE n v l ni I 0 = ([2, 2, 2, 2], 0, 0) := by
      obtain ⟨y, hy, hu, hk⟩ := steps_zero (I := I) hMS
      rw [run_some hok (Int.le_refl 0) hy]
      have k := last_mask hMS hg hk
      have k0 := k 0 (by omega)
      rw [Nat.add_zero] at k0
      rw [k0, k 1 (by omega), k 2 (by omega), k 3 (by omega), hu]
    have hsame : stepsE I (4 * (l.length : Int) + more) l 0 (startE l.length) = stepsE I (4 * (l.length : Int)) l 0 (startE l.length) := steps_enough l 0 _ (by simp [startE]; omega) (by simp [startE]; omega)
    cases hs : stepsE I (4 * (l.length : Int)) l 0 (startE l.length) with
    | none =>
      left
      exact ⟨run_range hok (by omega) (hsame.trans hs), by rw [full_of (run_range hok (by omega) hs)]; rfl, h0⟩
    | some y =>
      right
      have k := last_mask hMS hg (steps_bit2 (by omega) hMS hs)
      have k0 := k 0 (by omega)
      rw [Nat.add_zero] at k0
      exact ⟨_, _, _, _, _, k0, k 1 (by omega), k 2 (by omega), k 3 (by omega), run_some hok (by omega) (hsame.trans hs), by rw [full_of (run_some hok (by omega) hs)]; rfl, h0⟩
  · left
    exact ⟨run_bad hok _, by rw [full_of (run_bad hok _)]; rfl, run_bad hok _⟩
/-- a lesser budget -/
theorem refines_cases (n : List UInt8) (v : Int) (l : List FS) (ni : Nat) (I : List Int) (b1 b2 : Int) (h0 : 0 ≤ b1) (hb : b1 ≤ b2) :
    (runE n v l ni I b1 = ([0, 0, 0, 0], 0, 1) ∧ runE n v l ni I b2 = ([0, 0, 0, 0], 0, 1)) ∨
    (runE n v l ni I b2 = ([0, 0, 0, 0], 0, 9)) ∨
    (∃ a0 a1 a2 a3 c0 c1 c2 c3 : Int, (a0 = 2 ∨ a0 = c0) ∧ (a1 = 2 ∨ a1 = c1) ∧ (a2 = 2 ∨ a2 = c2) ∧ (a3 = 2 ∨ a3 = c3) ∧ runE n v l ni I b1 = ([a0, a1, a2, a3], min b1 (costE l), 0) ∧ runE n v l ni I b2 = ([c0, c1, c2, c3], min b2 (costE l), 0)) := by
  by_cases hok : RunOk n v l ni I
  · right
    obtain ⟨_, _, _, hl1, _, MS, hMS, hg⟩ := valid_parts hok.1
    cases hs : stepsE I b2 l 0 (startE l.length) with
    | none => exact Or.inl (run_range hok (by omega) hs)
    | some y2 =>
      right
      obtain ⟨y1, hy1, hl⟩ := steps_less h0 hb hMS hs
      have u1 := steps_used l 0 _ y1 hy1 (by simp [startE]; omega)
      have u2 := steps_used l 0 _ y2 hs (by simp [startE]; omega)
      have e1 : y1.used = min b1 (costE l) := by rw [u1]; simp [startE]
      have e2 : y2.used = min b2 (costE l) := by rw [u2]; simp [startE]
      have k : ∀ j, j < 4 → y1.v.getD ((l.length - 1) * 4 + j) 0 = 2 ∨ y1.v.getD ((l.length - 1) * 4 + j) 0 = y2.v.getD ((l.length - 1) * 4 + j) 0 := by
        intro j hj
        obtain ⟨t, ht, htl, _⟩ := masksL_ext l [] MS hMS
        rw [List.nil_append] at ht
        subst ht
        rw [List.getLast?_eq_getElem?] at hg
        refine hl.2.2.2 _ (by omega) ?_
        rw [show ((l.length - 1) * 4 + j) / 4 = MS.length - 1 by omega]
        exact hg
      have k0 := k 0 (by omega)
      rw [Nat.add_zero] at k0
      exact ⟨_, _, _, _, _, _, _, _, k0, k 1 (by omega), k 2 (by omega), k 3 (by omega), by rw [run_some hok h0 hy1, e1], by rw [run_some hok (by omega) hs, e2]⟩
  · left
    exact ⟨run_bad hok _, run_bad hok _⟩
/-- two lists of inputs -/
theorem cells_case (n : List UInt8) (v : Int) (l : List FS) (i1 i2 : List FS) (b1 b2 : List Bool) (h1 : fullE n v l i1.length (pixI i1) = (b1, 0)) (h2 : fullE n v l i2.length (pixI i2) = (b2, 0)) :
    i1.length = 4 ∧ i2.length = 4 ∧ ∀ c, c < 4 → (∀ k, k < 4 → (pixI i1).getD (k * 4 + c) 0 = (pixI i2).getD (k * 4 + c) 0) → b1[c]? = b2[c]? := by
  have key : ∀ (i : List FS) (b : List Bool), fullE n v l i.length (pixI i) = (b, 0) → RunOk n v l i.length (pixI i) ∧ ∃ y, stepsE (pixI i) (4 * (l.length : Int)) l 0 (startE l.length) = some y ∧ b = [y.v.getD ((l.length - 1) * 4) 0 == 1, y.v.getD ((l.length - 1) * 4 + 1) 0 == 1, y.v.getD ((l.length - 1) * 4 + 2) 0 == 1, y.v.getD ((l.length - 1) * 4 + 3) 0 == 1] := by
    intro i b h
    by_cases hok : RunOk n v l i.length (pixI i)
    · refine ⟨hok, ?_⟩
      cases hs : stepsE (pixI i) (4 * (l.length : Int)) l 0 (startE l.length) with
      | none =>
        rw [full_of (run_range hok (by omega) hs)] at h
        injection h with _ h
        exact absurd h (by decide)
      | some y =>
        rw [full_of (run_some hok (by omega) hs)] at h
        injection h with h _
        exact ⟨y, rfl, h.symm⟩
    · rw [full_of (run_bad hok _)] at h
      injection h with _ h
      exact absurd h (by decide)
  obtain ⟨o1, y1, e1, rfl⟩ := key i1 b1 h1
  obtain ⟨o2, y2, e2, rfl⟩ := key i2 b2 h2
  refine ⟨o1.2.1, o2.2.1, fun c hc hh => ?_⟩
  have hI : ∀ k : Nat, (pixI i1).getD (k * 4 + c) 0 = (pixI i2).getD (k * 4 + c) 0 := fun k => by
    by_cases hk : k < 4
    · exact hh k hk
    · rw [List.getD_eq_getElem?_getD, List.getD_eq_getElem?_getD, List.getElem?_eq_none (by rw [pixI_len, o1.2.1]; omega), List.getElem?_eq_none (by rw [pixI_len, o2.2.1]; omega)]
  have hcol := col_steps hc hI l 0 _ _ _ _ ⟨rfl, rfl, fun _ => rfl⟩ e1 e2
  have hv := hcol.2.2 (l.length - 1)
  have hcs : c = 0 ∨ c = 1 ∨ c = 2 ∨ c = 3 := by omega
  rcases hcs with rfl | rfl | rfl | rfl
  · rw [Nat.add_zero] at hv
    show some (_ == 1) = some (_ == 1)
    rw [hv]
  all_goals
    show some (_ == 1) = some (_ == 1)
    rw [hv]
end Go.Proofs.YtamabdijeklgjaaDoor.Ext
