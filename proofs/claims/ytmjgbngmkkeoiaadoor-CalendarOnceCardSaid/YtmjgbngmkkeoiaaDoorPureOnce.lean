/- Of the slots of a night exactly one reaches an angle; the next moment that does is at most 190 moments away. -/
import Derived.Test.YtmjgbngmkkeoiaaDoorPlain
import Derived.Test.YtmjgbngmkkeoiaaDoorH4
namespace Go.Proofs.YtmjgbngmkkeoiaaDoor.Ext
open Go Go.Proofs Go.RowKit Go.Proofs.YtmjgbngmkkeoiaaDoorW.PrintWords Go.Proofs.YtmjgbngmkkeoiaaDoor.G Go.Proofs.YtmjgbngmkkeoiaaDoor.H
set_option linter.unusedVariables false

theorem reaches_ok {x a : Int} (h : isM x) (ha : 0 ≤ a) (ha1 : a < 5760) : observatorylaw09_reaches.f x a = some (reachB x a) := by
  unfold observatorylaw09_reaches.f reachB
  rw [sid_ok h]
  simp only [Option.bind_some, if_true]
  rw [wrap_in (n := (60 * (x % 96) + 16 * (x / 96)) % 5760 - a) (by omega) (by omega), wrap_in (n := (60 * (x % 96) + 16 * (x / 96)) % 5760 - a + 5760) (by omega) (by omega), Int.tmod_eq_emod_of_nonneg (by omega), show (60 * (x % 96) + 16 * (x / 96)) % 5760 - a + 5760 = (60 * (x % 96) + 16 * (x / 96)) % 5760 + 5760 - a by omega]
/-- the slot of a night that reaches an angle -/
def hit (n a : Int) : Int := (96 - ((16 * n - a) % 5760) / 60) % 96
theorem hit_range (n a : Int) : 0 ≤ hit n a ∧ hit n a < 96 := by unfold hit; omega
theorem reach_iff {n s a : Int} (h2 : 0 ≤ s) (h3 : s < 96) : reachB (n * 96 + s) a = decide (s = hit n a) := by
  unfold reachB hit
  rw [show (n * 96 + s) % 96 = s by omega, show (n * 96 + s) / 96 = n by omega]
  have : ((60 * s + 16 * n) % 5760 + 5760 - a) % 5760 < 60 ↔ s = (96 - ((16 * n - a) % 5760) / 60) % 96 := by omega
  by_cases h : s = (96 - ((16 * n - a) % 5760) / 60) % 96
  · rw [decide_eq_true h, decide_eq_true (this.2 h)]
  · rw [decide_eq_false h, decide_eq_false (fun h' => h (this.1 h'))]
theorem reach_hit {n a : Int} : reachB (n * 96 + hit n a) a = true := by
  rw [reach_iff (hit_range n a).1 (hit_range n a).2]; exact decide_eq_true rfl

/-! ### the search -/
theorem nextL_tells : ∀ (k : Nat) (m a : Int), (∃ x, nextL k m a = (x, 0) ∧ m ≤ x ∧ x < m + k ∧ reachB x a = true ∧ ∀ y, m ≤ y → y < x → reachB y a = false) ∨ (nextL k m a = (0, 9) ∧ ∀ y, m ≤ y → y < m + k → reachB y a = false) := by
  intro k
  induction k with
  | zero => intro m a; exact .inr ⟨rfl, fun y h1 h2 => by omega⟩
  | succ k ih =>
    intro m a
    cases hr : reachB m a with
    | true => exact .inl ⟨m, nextL_hit hr, by omega, by omega, hr, fun y h1 h2 => by omega⟩
    | false =>
      rw [nextL_step hr]
      rcases ih (m + 1) a with ⟨x, e, h1, h2, h3, h4⟩ | ⟨e, h4⟩
      · refine .inl ⟨x, e, by omega, by omega, h3, fun y hy1 hy2 => ?_⟩
        by_cases hy : y = m
        · rw [hy]; exact hr
        · exact h4 y (by omega) hy2
      · refine .inr ⟨e, fun y hy1 hy2 => ?_⟩
        by_cases hy : y = m
        · rw [hy]; exact hr
        · exact h4 y (by omega) (by omega)
/-- some moment of the next 190 reaches it -/
theorem soon {m a : Int} (h0 : 0 ≤ m) : ∃ x, m ≤ x ∧ x ≤ m + 190 ∧ reachB x a = true := by
  by_cases hs : m % 96 = 0
  · exact ⟨m / 96 * 96 + hit (m / 96) a, by have := hit_range (m / 96) a; omega, by have := hit_range (m / 96) a; omega, reach_hit⟩
  · exact ⟨(m / 96 + 1) * 96 + hit (m / 96 + 1) a, by have := hit_range (m / 96 + 1) a; omega, by have := hit_range (m / 96 + 1) a; omega, reach_hit⟩

/-! ### the law -/
theorem l1_any (a stop : Int) (ha : 0 ≤ a) (ha1 : a < 5760) (hstop : stop ≤ 38400) : ∀ (d : Nat) (k : Nat) (x : Int), 0 ≤ x → (∀ y, x ≤ y → y < stop → reachB y a = false) → stop - x ≤ d → d < k → observatorylaw09_CalendarOnce.l1 k a true stop x = some true := by
  intro d
  induction d with
  | zero =>
    intro k x h0 hr hd hk
    obtain ⟨k, rfl⟩ : ∃ m, k = m + 1 := ⟨k - 1, by omega⟩
    simp only [observatorylaw09_CalendarOnce.l1]
    rw [if_neg (by omega)]
  | succ d ih =>
    intro k x h0 hr hd hk
    obtain ⟨k, rfl⟩ : ∃ m, k = m + 1 := ⟨k - 1, by omega⟩
    simp only [observatorylaw09_CalendarOnce.l1]
    by_cases hx : x < stop
    · rw [if_pos hx, reaches_ok ⟨h0, by omega⟩ ha ha1, hr x (by omega) hx]
      simp only [Option.bind_some, Bool.false_eq_true, if_false]
      rw [wrap_in (n := x + 1) (by omega) (by omega)]
      exact ih k (x + 1) (by omega) (fun y h1 h2 => hr y (by omega) h2) (by omega) (by omega)
    · rw [if_neg hx]
theorem j3_any (m a : Int) (hm : (Lit.int .i64 m).wf = true) (ha : 0 ≤ a) (ha1 : a < 5760) (k : Nat) (hk : 38500 ≤ k) : observatorylaw09_CalendarOnce.j3 k m a true = some true := by
  obtain ⟨k, rfl⟩ : ∃ m, k = m + 3 := ⟨k - 3, by omega⟩
  simp only [observatorylaw09_CalendarOnce.j3, observatorylaw09_CalendarOnce.j4, observatorylaw09_CalendarOnce.j5]
  by_cases h : isM m
  · have h0 := h.1
    have h1 := h.2
    have e : calendar_Next.f m a = some (nextL (38400 - m).toNat m a) := by unfold calendar_Next.f; rw [if_pos ⟨h0, h1, ha, ha1⟩]
    rw [e]
    simp only [Option.bind_some]
    rw [if_neg (by omega), decide_eq_false (by omega)]
    simp only [Bool.false_eq_true, if_false]
    rw [wrap_in (n := m + 190) (by omega) (by omega)]
    obtain ⟨z, hz1, hz2, hz3⟩ := soon (a := a) h0
    rcases nextL_tells (38400 - m).toNat m a with ⟨x, hx, h2, h3, h4, h5⟩ | ⟨hx, h5⟩
    · rw [hx]
      simp only [if_true]
      have hle : x ≤ z := by
        rcases Int.lt_or_le z x with h | h
        · rw [h5 z hz1 h] at hz3; cases hz3
        · exact h
      rw [if_neg (by omega), if_neg (by omega), reaches_ok ⟨by omega, by omega⟩ ha ha1, h4]
      simp only [Option.bind_some, if_true]
      exact l1_any a x ha ha1 (by omega) (x - m).toNat (k + 0) m h0 (fun y => h5 y) (by omega) (by omega)
    · rw [hx]
      have : ¬ (m + 190 < 38399) := fun hlt => by rw [h5 z hz1 (by omega)] at hz3; cases hz3
      simp only [show ¬ ((9 : Int) = 0) by decide, if_false, if_true, if_neg this]
      exact l1_any a 38400 ha ha1 (by omega) (38400 - m).toNat (k + 0) m h0 (fun y h1 h2 => h5 y h1 (by omega)) (by omega) (by omega)
  · have e : calendar_Next.f m a = some (0, 1) := by unfold calendar_Next.f; rw [if_neg (fun hh => h ⟨hh.1, hh.2.1⟩)]
    rw [e]
    simp only [Option.bind_some]
    by_cases hn : m < 0
    · rw [if_pos hn]; simp
    · rw [if_neg hn, decide_eq_true (show m > 38399 by unfold isM at h; omega)]; simp
theorem l0_any (n m a : Int) (hn0 : 0 ≤ n) (hn1 : n < 400) (hm : (Lit.int .i64 m).wf = true) (ha : 0 ≤ a) (ha1 : a < 5760) : ∀ (d : Nat) (k : Nat) (s c : Int), 0 ≤ s → s ≤ 96 → 96 - s = d → c = (if hit n a < s then 1 else 0) → 38600 + d ≤ k →
    observatorylaw09_CalendarOnce.l0 k n m a true c s = some true := by
  intro d
  induction d with
  | zero =>
    intro k s c h0 h1 hd hc hk
    obtain ⟨k, rfl⟩ : ∃ m, k = m + 1 := ⟨k - 1, by omega⟩
    simp only [observatorylaw09_CalendarOnce.l0]
    rw [if_neg (by omega), if_pos (by rw [hc, if_pos (by have := hit_range n a; omega)])]
    exact j3_any m a hm ha ha1 k (by omega)
  | succ d ih =>
    intro k s c h0 h1 hd hc hk
    obtain ⟨k, rfl⟩ : ∃ m, k = m + 1 := ⟨k - 1, by omega⟩
    simp only [observatorylaw09_CalendarOnce.l0]
    rw [if_pos (by omega), moment_ok hn0 hn1 h0 (by omega)]
    simp only [Option.bind_some, if_true]
    rw [reaches_ok ⟨by omega, by omega⟩ ha ha1, reach_iff h0 (by omega)]
    simp only [Option.bind_some, decide_eq_true_eq]
    rw [wrap_in (n := s + 1) (by omega) (by omega)]
    by_cases hs : s = hit n a
    · rw [if_pos hs, hc, if_neg (by omega), wrap_in (n := 0 + 1) (by omega) (by omega)]
      exact ih k (s + 1) (0 + 1) (by omega) (by omega) (by omega) (by rw [if_pos (by omega)]; rfl) (by omega)
    · rw [if_neg hs]
      refine ih k (s + 1) c (by omega) (by omega) (by omega) ?_ (by omega)
      rw [hc]
      by_cases h2 : hit n a < s
      · rw [if_pos h2, if_pos (by omega)]
      · rw [if_neg h2, if_neg (by omega)]
theorem once : observatorylaw09_CalendarOnce.Pure := by
  intro n m a hn hm ha
  obtain ⟨k, hk⟩ : ∃ k, 40000 ≤ k := ⟨40000, Nat.le_refl _⟩
  refine ⟨k, ?_⟩
  unfold observatorylaw09_CalendarOnce.f head.f
  simp only [Option.bind_some]
  obtain ⟨k, rfl⟩ : ∃ m, k = m + 1 := ⟨k - 1, by omega⟩
  have bad : ¬ (0 ≤ a ∧ a < 5760) → observatorylaw09_CalendarOnce.j0 (k + 1) n m a true true = some true := by
    intro h
    have e : calendar_Next.f m a = some (0, 1) := by unfold calendar_Next.f; rw [if_neg (fun hh => h hh.2.2)]
    simp only [observatorylaw09_CalendarOnce.j0, if_true, e, Option.bind_some]
    rfl
  by_cases h0 : a < 0
  · rw [if_pos h0]; exact bad (by omega)
  · rw [if_neg h0]
    by_cases h1 : a < 5760
    · rw [decide_eq_false (by omega)]
      obtain ⟨k, rfl⟩ : ∃ m, k = m + 1 := ⟨k - 1, by omega⟩
      simp only [observatorylaw09_CalendarOnce.j0, observatorylaw09_CalendarOnce.j1, Bool.false_eq_true, if_false]
      by_cases hn0 : n ≥ 0
      · rw [if_pos hn0]
        by_cases hn1 : n < 400
        · rw [decide_eq_true hn1, if_pos rfl]
          exact l0_any n m a (by omega) hn1 hm (by omega) h1 96 k 0 0 (by omega) (by omega) (by omega) (by rw [if_neg (by have := hit_range n a; omega)]) (by omega)
        · rw [decide_eq_false hn1, if_neg (by decide)]
          exact j3_any m a hm (by omega) h1 k (by omega)
      · rw [if_neg hn0]
        exact j3_any m a hm (by omega) h1 k (by omega)
    · rw [decide_eq_true (by omega)]; exact bad (by omega)
end Go.Proofs.YtmjgbngmkkeoiaaDoor.Ext
