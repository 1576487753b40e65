/- exec's runner: pay and the closures of step, walked. -/
import Derived.Test.YtamabdijeklgjaaDoorGj
import Derived.Test.YtamabdijeklgjaaDoorGa
import Derived.Test.YtamabdijeklgjaaDoorP1
import Derived.Deep.RegionHeld3
namespace Go.Proofs.YtamabdijeklgjaaDoor.Ext
open Go Go.Proofs Go.RowKit Go.Proofs.YtamabdijeklgjaaDoorW.PrintWords Go.Proofs.YtamabdijeklgjaaDoorW.PrintMore
attribute [local go_sem] max2_int min2_int max_two min_two
set_option linter.unusedVariables false
set_option linter.unusedSimpArgs false

theorem max_abs (a : Int) : max a (-a) = if a < -a then -a else a := by
  split <;> omega
set_option maxRecDepth 100000 in
set_option maxHeartbeats 4000000 in
theorem product_calls (a b : Int) (w : World) (ha0 : -1000000000000 ≤ a) (ha1 : a ≤ 1000000000000) (hb0 : -1000000000000 ≤ b) (hb1 : b ≤ 1000000000000) :
    Calls Tryd.prog 48 #[.int .i64 a, .int .i64 b] w fun e w' => e = .returned (.int .i64 (prodE a b)) ∧ w = w' := by
  by_cases hz : a = 0
  · subst hz
    have he : prodE 0 b = 0 := by simp [prodE]
    rw [he]
    go_enter Tryd.func48, Tryd.ntmps48
    go_wp2
    go_ret
    exact ⟨by simp, rfl⟩
  · have n0 : (a == 0) = false := by simpa using hz
    have n1 : (a != 0) = true := by simpa using hz
    obtain ⟨x, hx⟩ : ∃ x, (if a < -a then -a else a) = x := ⟨_, rfl⟩
    obtain ⟨y, hy⟩ : ∃ y, (if b < -b then -b else b) = y := ⟨_, rfl⟩
    have hx1 : 1 ≤ x := by rw [← hx]; split <;> omega
    have hx2 : x ≤ 1000000000000 := by rw [← hx]; split <;> omega
    have hy2 : 0 ≤ y ∧ y ≤ 1000000000000 := by constructor <;> (rw [← hy]; split <;> omega)
    have n2 : (x == 0) = false := by simp; omega
    have n3 : (x != 0) = true := by simp; omega
    have hd : 0 ≤ 1000000000000 / x ∧ 1000000000000 / x ≤ 1000000000000 := ⟨Int.ediv_nonneg (by omega) (by omega), Int.ediv_le_self _ (by omega)⟩
    obtain ⟨d, hdd⟩ : ∃ d, 1000000000000 / x = d := ⟨_, rfl⟩
    have hdt : Int.tdiv 1000000000000 x = d := by rw [Int.tdiv_eq_ediv_of_nonneg (by omega)]; exact hdd
    rw [hdd] at hd
    obtain ⟨hd0, hd1⟩ := hd
    obtain ⟨hy0, hy1⟩ := hy2
    by_cases hc : d < y
    · have c0 : decide (d < y) = true := decide_eq_true hc
      have he : prodE a b = 2000000000000 := by
        unfold prodE
        rw [max_abs, max_abs, hx, hy, hdd, if_pos ⟨hz, hc⟩]
      rw [he]
      clear he hz hc
      go_enter Tryd.func48, Tryd.ntmps48
      go_wp2
      go_ret
      exact ⟨rfl, rfl⟩
    · have c0 : decide (d < y) = false := decide_eq_false hc
      have hm : -1000000000000 ≤ a * b ∧ a * b ≤ 1000000000000 := by
        have h1 : y * x ≤ 1000000000000 := by
          have : y ≤ 1000000000000 / x := by rw [hdd]; omega
          exact (Int.le_ediv_iff_mul_le (by omega)).1 this
        have h2 : a * b = x * y ∨ a * b = -(x * y) := by
          rw [← hx, ← hy]
          split <;> split
          · left; rw [Int.neg_mul_neg]
          · right; rw [Int.neg_mul, Int.neg_neg]
          · right; rw [Int.mul_neg, Int.neg_neg]
          · left; rfl
        have h3 : 0 ≤ x * y := Int.mul_nonneg (by omega) (by omega)
        rw [Int.mul_comm] at h1
        omega
      have he : prodE a b = a * b := by
        unfold prodE
        rw [max_abs, max_abs, hx, hy, hdd, if_neg (fun k => hc k.2)]
      rw [he]
      obtain ⟨hm0, hm1⟩ := hm
      obtain ⟨m, hmm⟩ : ∃ m, a * b = m := ⟨_, rfl⟩
      rw [hmm] at hm0 hm1 ⊢
      clear he hz hc
      go_enter Tryd.func48, Tryd.ntmps48
      go_wp2
      go_ret
      exact ⟨rfl, rfl⟩
theorem undrewN {b : Option Nat} {w w1 : World} {n : Nat} (h : (w.drewN n).grownBy w1 b) : w.grownBy w1 b := ⟨h.os, h.tape, h.output, h.size, h.block⟩
def runCells (IV : Value) (vB n : Nat) (bud used : Int) : Array Value := #[IV, .slice (some ⟨vB, 0, none⟩) n n, .int .i64 bud, .int .i64 used]
set_option maxRecDepth 100000 in
set_option maxHeartbeats 1000000 in
theorem pay_no (rB vB n : Nat) (IV : Value) (bud used : Int) (w : World) (h : w.heap[rB]? = some (.cells (runCells IV vB n bud used) 81 (0, 0))) (hb : bud ≤ used) :
    Calls Tryd.prog 43 #[.pointer (some ⟨rB, 0, none⟩)] w fun e w' => e = .returned (.bool false) ∧ Below w.heap.size w w' := by
  have c2 := blk_cell h 2
  have c3 := blk_cell h 3
  have hd : decide (bud ≤ used) = true := decide_eq_true hb
  have hd2 : decide (used < bud) = false := decide_eq_false (by omega)
  clear h
  unfold runCells at c2 c3
  simp at c2 c3
  go_enter Tryd.func43, Tryd.ntmps43
  go_wp2_with fail
  go_quiet (fail)
  go_wp2_with fail
  go_ret
  exact ⟨rfl, bdr (Below.refl _ _) _⟩
set_option maxRecDepth 100000 in
set_option maxHeartbeats 1000000 in
theorem pay_yes (rB vB n : Nat) (IV : Value) (bud used : Int) (w : World) (h : w.heap[rB]? = some (.cells (runCells IV vB n bud used) 81 (0, 0))) (hb : used < bud) (h0 : 0 ≤ used) (h1 : used ≤ 1000000) :
    Calls Tryd.prog 43 #[.pointer (some ⟨rB, 0, none⟩)] w fun e w' => e = .returned (.bool true) ∧ w'.heap[rB]? = some (.cells (runCells IV vB n bud (used + 1)) 81 (0, 0)) ∧ w.grownBy w' (some rB) := by
  have c2 := blk_cell h 2
  have c3 := blk_cell h 3
  have f3 := blk_frozen h 3
  have H := Lib.hid h
  have hd : decide (bud ≤ used) = false := decide_eq_false (by omega)
  have hd2 : decide (used < bud) = true := decide_eq_true hb
  clear h
  unfold runCells at c2 c3
  simp at c2 c3
  go_enter Tryd.func43, Tryd.ntmps43
  go_wp2_with fail
  go_quiet (fail)
  go_wp2_with fail
  go_ret
  exact ⟨rfl, blk_put (blk_drewN H.out nq) 3 (.int .i64 (used + 1)) rfl, undrewN (setCell_grown (w.drewN nq) ⟨rB, 3, none⟩ (.int .i64 (used + 1)))⟩
set_option maxRecDepth 100000 in
set_option maxHeartbeats 1000000 in
theorem in_calls (p3 p4 p5 rB bi oi ci k cc : Nat) (c : Int) (v : Int) (w : World) (h3 : w.cell? ⟨p3, 0, none⟩ = some (.pointer (some ⟨rB, 0, none⟩))) (hr : w.cell? ⟨rB, 0, none⟩ = some (.slice (some ⟨bi, oi, none⟩) 4 ci))
    (h4 : w.cell? ⟨p4, 3, none⟩ = some (.int .i64 (k : Nat))) (h5 : w.cell? ⟨p5, 0, none⟩ = some (.int .i64 (cc : Nat))) (hv : w.cell? ⟨bi, oi + k * 4 + cc, none⟩ = some (.int .i64 v)) (hk : k < 4) (hc : cc < 4) :
    Calls Tryd.prog 44 #[.pointer (some ⟨p3, 0, none⟩), .pointer (some ⟨p4, 0, none⟩), .pointer (some ⟨p5, 0, none⟩)] w fun e w' => e = .returned (.int .i64 v) ∧ Below w.heap.size w w' := by
  have hk1 : (k : Int) < 4 := by omega
  have hk0 : (0 : Int) ≤ (k : Int) := by omega
  have hc1 : (cc : Int) < 4 := by omega
  have hc0 : (0 : Int) ≤ (cc : Int) := by omega
  go_enter Tryd.func44, Tryd.ntmps44
  go_wp2_with fail
  go_quiet (fail)
  go_wp2_with fail
  go_ret
  exact ⟨rfl, bdr (Below.refl _ _) _⟩
section
variable (p8 p9 : Nat) (a b : Int) (w : World) (h8 : w.cell? ⟨p8, 0, none⟩ = some (.int .i64 a)) (h9 : w.cell? ⟨p9, 0, none⟩ = some (.int .i64 b)) (ha0 : -1000000000000 ≤ a) (ha1 : a ≤ 1000000000000) (hb0 : -1000000000000 ≤ b) (hb1 : b ≤ 1000000000000)
include h8 h9 ha0 ha1 hb0 hb1
theorem add_calls : Calls Tryd.prog 45 #[.pointer (some ⟨p8, 0, none⟩), .pointer (some ⟨p9, 0, none⟩)] w fun e w' => e = .returned (.int .i64 (a + b)) ∧ w = w' := by
  go_enter Tryd.func45, Tryd.ntmps45
  go_wp2_with fail
  go_ret
  exact ⟨rfl, rfl⟩
theorem sub_calls : Calls Tryd.prog 46 #[.pointer (some ⟨p8, 0, none⟩), .pointer (some ⟨p9, 0, none⟩)] w fun e w' => e = .returned (.int .i64 (a - b)) ∧ w = w' := by
  go_enter Tryd.func46, Tryd.ntmps46
  go_wp2_with fail
  go_ret
  exact ⟨rfl, rfl⟩
theorem mult_calls : Calls Tryd.prog 47 #[.pointer (some ⟨p8, 0, none⟩), .pointer (some ⟨p9, 0, none⟩)] w fun e w' => e = .returned (.int .i64 (prodE a b)) ∧ w = w' := by
  have P := Lib.hid (product_calls a b w ha0 ha1 hb0 hb1)
  go_enter Tryd.func47, Tryd.ntmps47
  go_wp2_with fail
  refine P.out.mono ?_
  rintro e w' ⟨rfl, rfl⟩
  go_wp2_with fail
  go_ret
  exact ⟨rfl, rfl⟩
end
theorem max_calls (p8 p9 : Nat) (a b : Int) (w : World) (h8 : w.cell? ⟨p8, 0, none⟩ = some (.int .i64 a)) (h9 : w.cell? ⟨p9, 0, none⟩ = some (.int .i64 b)) : Calls Tryd.prog 51 #[.pointer (some ⟨p8, 0, none⟩), .pointer (some ⟨p9, 0, none⟩)] w fun e w' => e = .returned (.int .i64 (max a b)) ∧ w = w' := by
  have hm : max a b = if a < b then b else a := by split <;> omega
  rw [hm]
  clear hm
  go_enter Tryd.func51, Tryd.ntmps51
  go_wp2_with fail
  all_goals
    go_ret
    exact ⟨rfl, rfl⟩
theorem scaled_at (a n : Int) (ha0 : -1000000000000 ≤ a) (ha1 : a ≤ 1000000000000) (hn0 : 0 ≤ n) (hn1 : n ≤ 1000000) : P.exec_scaled.f a n = some (scaledE a n) := by
  have h1 : -1000000000000000000 ≤ a * n ∧ a * n ≤ 1000000000000000000 := by
    constructor
    · have := Int.mul_le_mul_of_nonneg_right ha0 hn0
      have h2 : -1000000000000 * 1000000 ≤ -1000000000000 * n := by omega
      omega
    · have := Int.mul_le_mul_of_nonneg_right ha1 hn0
      omega
  unfold P.exec_scaled.f scaledE
  obtain ⟨m, hm⟩ : ∃ m, a * n = m := ⟨_, rfl⟩
  rw [hm] at h1 ⊢
  have w1 : ∀ z : Int, -9000000000000000000 ≤ z → z ≤ 9000000000000000000 → wrap64 z = z := fun z h h' => by unfold wrap64; omega
  have q := Int.tdiv_eq_ediv (a := m) (b := 1000)
  rw [show Int.sign 1000 = 1 from rfl] at q
  rw [w1 m (by omega) (by omega)]
  have q1 : -1000000000000001 ≤ Int.tdiv m 1000 ∧ Int.tdiv m 1000 ≤ 1000000000000001 := by omega
  rw [w1 (Int.tdiv m 1000) (by omega) (by omega), w1 (Int.tdiv m 1000 * 1000) (by omega) (by omega), w1 (Int.tdiv m 1000 - 1) (by omega) (by omega)]
  split <;> (congr 1; omega)
section
variable (p8 p4 : Nat) (a n : Int) (w : World) (h8 : w.cell? ⟨p8, 0, none⟩ = some (.int .i64 a)) (h4 : w.cell? ⟨p4, 3, none⟩ = some (.int .i64 n))
include h8 h4
theorem scale_calls (ha0 : -1000000000000 ≤ a) (ha1 : a ≤ 1000000000000) (hn0 : 0 ≤ n) (hn1 : n ≤ 1000000) : Calls Tryd.prog 49 #[.pointer (some ⟨p8, 0, none⟩), .pointer (some ⟨p4, 0, none⟩)] w fun e w' => e = .returned (.int .i64 (scaledE a n)) ∧ Below w.heap.size w w' := by
  have P := Lib.hid (P.exec_scaled.calls a n _ w (scaled_at a n ha0 ha1 hn0 hn1))
  go_enter Tryd.func49, Tryd.ntmps49
  go_wp2_with fail
  refine P.out.mono ?_
  rintro e w' ⟨rfl, hd⟩
  have HD := Lib.hid hd.below
  clear hd
  go_wp2_with fail
  go_ret
  exact ⟨rfl, HD.out⟩
theorem least_calls : Calls Tryd.prog 52 #[.pointer (some ⟨p8, 0, none⟩), .pointer (some ⟨p4, 0, none⟩)] w fun e w' => e = .returned (.int .i64 (if n ≤ a then 1 else 0)) ∧ w = w' := by
  by_cases h : n ≤ a
  · have h0 : decide (n ≤ a) = true := decide_eq_true h
    have h1 : decide (a < n) = false := decide_eq_false (by omega)
    rw [if_pos h]
    go_enter Tryd.func52, Tryd.ntmps52
    go_wp2_with fail
    go_ret
    exact ⟨rfl, rfl⟩
  · have h0 : decide (n ≤ a) = false := decide_eq_false h
    have h1 : decide (a < n) = true := decide_eq_true (by omega)
    rw [if_neg h]
    go_enter Tryd.func52, Tryd.ntmps52
    go_wp2_with fail
    go_ret
    exact ⟨rfl, rfl⟩
end
theorem far_calls (n : Int) (w : World) : Calls Tryd.prog 33 #[.int .i64 n] w fun e w' => e = .returned (.bool (farE n)) ∧ Below w.heap.size w w' := by
  refine (P.exec_beyond.calls n (farE n) w ?_).mono ?_
  · unfold P.exec_beyond.f farE
    split
    · rename_i h
      rw [decide_eq_true h]
      rfl
    · rename_i h
      rw [decide_eq_false h]
      rfl
  · rintro e w' ⟨rfl, hd⟩
    exact ⟨rfl, hd.below⟩
end Go.Proofs.YtamabdijeklgjaaDoor.Ext
