/- unit: exponents, of, valid, walked. -/
import Derived.Test.YtifamjapgpcjjaaDoorTabs
import Derived.WalkKit
import Derived.OwnWalk
import Derived.Deep.QuietTactic
import Derived.BigQuiet
import Derived.WideLaws
namespace Go.Proofs.YtifamjapgpcjjaaDoor.Ext
open Go Go.Proofs Go.RowKit Go.Proofs.YtifamjapgpcjjaaDoorW.PrintWords

def okE (n : Int) : Prop := -8 ≤ n ∧ n ≤ 8
instance (n : Int) : Decidable (okE n) := by unfold okE; infer_instance
def okU (a b c : Int) : Prop := okE a ∧ okE b ∧ okE c
instance (a b c : Int) : Decidable (okU a b c) := by unfold okU; infer_instance

set_option maxRecDepth 100000 in
set_option maxHeartbeats 1000000 in
theorem exponents_any (a b c : Int) (w : World) :
    Calls Tryd.prog 20 #[.agg #[.int .i64 a, .int .i64 b, .int .i64 c]] w fun e w' => e = .returned (.agg #[.int .i64 a, .int .i64 b, .int .i64 c]) ∧ Below w.heap.size w w' := by
  go_enter Tryd.func20, Tryd.ntmps20
  go_wp2
  refine bodyPost_ret (v := .agg #[.int .i64 a, .int .i64 b, .int .i64 c]) (by simp [results, Tryd.results20, go_sem]) rfl ⟨rfl, ((Below.refl _ _).alloc (Nat.le_refl _) _).alloc (by simp) _⟩

theorem idx0 (x y z : Value) (w : World) : (Instr.index 40 (.agg #[x, y, z]) (.int .i64 0)).run Tryd.prog w = .ok x w := by kernel_rfl
theorem idx1 (x y z : Value) (w : World) : (Instr.index 40 (.agg #[x, y, z]) (.int .i64 1)).run Tryd.prog w = .ok y w := by kernel_rfl
theorem idx2 (x y z : Value) (w : World) : (Instr.index 40 (.agg #[x, y, z]) (.int .i64 2)).run Tryd.prog w = .ok z w := by kernel_rfl

set_option maxRecDepth 100000 in
set_option maxHeartbeats 1000000 in
theorem of_yes (a b c : Int) (w : World) (h : okU a b c) :
    Calls Tryd.prog 21 #[.agg #[.int .i64 a, .int .i64 b, .int .i64 c]] w fun e w' => e = .returned (.tuple #[.agg #[.int .i64 a, .int .i64 b, .int .i64 c], .bool true]) ∧ Below w.heap.size w w' := by
  obtain ⟨⟨a1, a2⟩, ⟨b1, b2⟩, ⟨c1, c2⟩⟩ := h
  have i0 := idx0 (.int .i64 a) (.int .i64 b) (.int .i64 c)
  have i1 := idx1 (.int .i64 a) (.int .i64 b) (.int .i64 c)
  have i2 := idx2 (.int .i64 a) (.int .i64 b) (.int .i64 c)
  go_enter Tryd.func21, Tryd.ntmps21
  go_wp2
  refine wp_loop_rounds 4 ?_
  rw [rounds_succ]
  go_wp2
  rw [rounds_succ]
  go_wp2
  rw [rounds_succ]
  go_wp2
  rw [rounds_succ]
  go_wp2
  refine bodyPost_ret (v := .tuple #[.agg #[.int .i64 a, .int .i64 b, .int .i64 c], .bool true]) (by simp [results, Tryd.results21, go_sem]) rfl ⟨rfl, ((Below.refl _ _).alloc (Nat.le_refl _) _).alloc (by simp) _⟩

set_option maxRecDepth 100000 in
set_option maxHeartbeats 2000000 in
theorem of_no_a_lo (a b c : Int) (w : World) (h : a < -8) :
    Calls Tryd.prog 21 #[.agg #[.int .i64 a, .int .i64 b, .int .i64 c]] w fun e w' => e = .returned (.tuple #[.agg #[.int .i64 0, .int .i64 0, .int .i64 0], .bool false]) ∧ Below w.heap.size w w' := by
  have i0 := idx0 (.int .i64 a) (.int .i64 b) (.int .i64 c)
  have i1 := idx1 (.int .i64 a) (.int .i64 b) (.int .i64 c)
  have i2 := idx2 (.int .i64 a) (.int .i64 b) (.int .i64 c)
  go_enter Tryd.func21, Tryd.ntmps21
  go_wp2
  refine wp_loop_rounds 4 ?_
  rw [rounds_succ]
  go_wp2
  refine bodyPost_ret (v := .tuple #[.agg #[.int .i64 0, .int .i64 0, .int .i64 0], .bool false]) (by simp [results, Tryd.results21, go_sem]) rfl ⟨rfl, ((Below.refl _ _).alloc (Nat.le_refl _) _).alloc (by simp) _⟩

set_option maxRecDepth 100000 in
set_option maxHeartbeats 2000000 in
theorem of_no_a_hi (a b c : Int) (w : World) (h : 8 < a) :
    Calls Tryd.prog 21 #[.agg #[.int .i64 a, .int .i64 b, .int .i64 c]] w fun e w' => e = .returned (.tuple #[.agg #[.int .i64 0, .int .i64 0, .int .i64 0], .bool false]) ∧ Below w.heap.size w w' := by
  have h' : ¬ a < -8 := by omega
  have i0 := idx0 (.int .i64 a) (.int .i64 b) (.int .i64 c)
  have i1 := idx1 (.int .i64 a) (.int .i64 b) (.int .i64 c)
  have i2 := idx2 (.int .i64 a) (.int .i64 b) (.int .i64 c)
  go_enter Tryd.func21, Tryd.ntmps21
  go_wp2
  refine wp_loop_rounds 4 ?_
  rw [rounds_succ]
  go_wp2
  refine bodyPost_ret (v := .tuple #[.agg #[.int .i64 0, .int .i64 0, .int .i64 0], .bool false]) (by simp [results, Tryd.results21, go_sem]) rfl ⟨rfl, ((Below.refl _ _).alloc (Nat.le_refl _) _).alloc (by simp) _⟩

set_option maxRecDepth 100000 in
set_option maxHeartbeats 2000000 in
theorem of_no_b_lo (a b c : Int) (w : World) (a1 : -8 ≤ a) (a2 : a ≤ 8) (h : b < -8) :
    Calls Tryd.prog 21 #[.agg #[.int .i64 a, .int .i64 b, .int .i64 c]] w fun e w' => e = .returned (.tuple #[.agg #[.int .i64 0, .int .i64 0, .int .i64 0], .bool false]) ∧ Below w.heap.size w w' := by
  have i0 := idx0 (.int .i64 a) (.int .i64 b) (.int .i64 c)
  have i1 := idx1 (.int .i64 a) (.int .i64 b) (.int .i64 c)
  have i2 := idx2 (.int .i64 a) (.int .i64 b) (.int .i64 c)
  go_enter Tryd.func21, Tryd.ntmps21
  go_wp2
  refine wp_loop_rounds 4 ?_
  rw [rounds_succ]
  go_wp2
  rw [rounds_succ]
  go_wp2
  refine bodyPost_ret (v := .tuple #[.agg #[.int .i64 0, .int .i64 0, .int .i64 0], .bool false]) (by simp [results, Tryd.results21, go_sem]) rfl ⟨rfl, ((Below.refl _ _).alloc (Nat.le_refl _) _).alloc (by simp) _⟩

set_option maxRecDepth 100000 in
set_option maxHeartbeats 2000000 in
theorem of_no_b_hi (a b c : Int) (w : World) (a1 : -8 ≤ a) (a2 : a ≤ 8) (h : 8 < b) :
    Calls Tryd.prog 21 #[.agg #[.int .i64 a, .int .i64 b, .int .i64 c]] w fun e w' => e = .returned (.tuple #[.agg #[.int .i64 0, .int .i64 0, .int .i64 0], .bool false]) ∧ Below w.heap.size w w' := by
  have h' : ¬ b < -8 := by omega
  have i0 := idx0 (.int .i64 a) (.int .i64 b) (.int .i64 c)
  have i1 := idx1 (.int .i64 a) (.int .i64 b) (.int .i64 c)
  have i2 := idx2 (.int .i64 a) (.int .i64 b) (.int .i64 c)
  go_enter Tryd.func21, Tryd.ntmps21
  go_wp2
  refine wp_loop_rounds 4 ?_
  rw [rounds_succ]
  go_wp2
  rw [rounds_succ]
  go_wp2
  refine bodyPost_ret (v := .tuple #[.agg #[.int .i64 0, .int .i64 0, .int .i64 0], .bool false]) (by simp [results, Tryd.results21, go_sem]) rfl ⟨rfl, ((Below.refl _ _).alloc (Nat.le_refl _) _).alloc (by simp) _⟩

set_option maxRecDepth 100000 in
set_option maxHeartbeats 2000000 in
theorem of_no_c_lo (a b c : Int) (w : World) (a1 : -8 ≤ a) (a2 : a ≤ 8) (b1 : -8 ≤ b) (b2 : b ≤ 8) (h : c < -8) :
    Calls Tryd.prog 21 #[.agg #[.int .i64 a, .int .i64 b, .int .i64 c]] w fun e w' => e = .returned (.tuple #[.agg #[.int .i64 0, .int .i64 0, .int .i64 0], .bool false]) ∧ Below w.heap.size w w' := by
  have i0 := idx0 (.int .i64 a) (.int .i64 b) (.int .i64 c)
  have i1 := idx1 (.int .i64 a) (.int .i64 b) (.int .i64 c)
  have i2 := idx2 (.int .i64 a) (.int .i64 b) (.int .i64 c)
  go_enter Tryd.func21, Tryd.ntmps21
  go_wp2
  refine wp_loop_rounds 4 ?_
  rw [rounds_succ]
  go_wp2
  rw [rounds_succ]
  go_wp2
  rw [rounds_succ]
  go_wp2
  refine bodyPost_ret (v := .tuple #[.agg #[.int .i64 0, .int .i64 0, .int .i64 0], .bool false]) (by simp [results, Tryd.results21, go_sem]) rfl ⟨rfl, ((Below.refl _ _).alloc (Nat.le_refl _) _).alloc (by simp) _⟩

set_option maxRecDepth 100000 in
set_option maxHeartbeats 2000000 in
theorem of_no_c_hi (a b c : Int) (w : World) (a1 : -8 ≤ a) (a2 : a ≤ 8) (b1 : -8 ≤ b) (b2 : b ≤ 8) (h : 8 < c) :
    Calls Tryd.prog 21 #[.agg #[.int .i64 a, .int .i64 b, .int .i64 c]] w fun e w' => e = .returned (.tuple #[.agg #[.int .i64 0, .int .i64 0, .int .i64 0], .bool false]) ∧ Below w.heap.size w w' := by
  have h' : ¬ c < -8 := by omega
  have i0 := idx0 (.int .i64 a) (.int .i64 b) (.int .i64 c)
  have i1 := idx1 (.int .i64 a) (.int .i64 b) (.int .i64 c)
  have i2 := idx2 (.int .i64 a) (.int .i64 b) (.int .i64 c)
  go_enter Tryd.func21, Tryd.ntmps21
  go_wp2
  refine wp_loop_rounds 4 ?_
  rw [rounds_succ]
  go_wp2
  rw [rounds_succ]
  go_wp2
  rw [rounds_succ]
  go_wp2
  refine bodyPost_ret (v := .tuple #[.agg #[.int .i64 0, .int .i64 0, .int .i64 0], .bool false]) (by simp [results, Tryd.results21, go_sem]) rfl ⟨rfl, ((Below.refl _ _).alloc (Nat.le_refl _) _).alloc (by simp) _⟩

theorem of_no (a b c : Int) (w : World) (h : ¬ okU a b c) :
    Calls Tryd.prog 21 #[.agg #[.int .i64 a, .int .i64 b, .int .i64 c]] w fun e w' => e = .returned (.tuple #[.agg #[.int .i64 0, .int .i64 0, .int .i64 0], .bool false]) ∧ Below w.heap.size w w' := by
  unfold okU okE at h
  by_cases a1 : a < -8
  · exact of_no_a_lo a b c w a1
  by_cases a2 : 8 < a
  · exact of_no_a_hi a b c w a2
  by_cases b1 : b < -8
  · exact of_no_b_lo a b c w (by omega) (by omega) b1
  by_cases b2 : 8 < b
  · exact of_no_b_hi a b c w (by omega) (by omega) b2
  by_cases c1 : c < -8
  · exact of_no_c_lo a b c w (by omega) (by omega) (by omega) (by omega) c1
  · exact of_no_c_hi a b c w (by omega) (by omega) (by omega) (by omega) (by omega)

set_option maxRecDepth 100000 in
set_option maxHeartbeats 2000000 in
theorem valid_yes (a b c : Int) (w : World) (h : okU a b c) :
    Calls Tryd.prog 19 #[.agg #[.int .i64 a, .int .i64 b, .int .i64 c]] w fun e w' => e = .returned (.bool true) ∧ Below w.heap.size w w' := by
  have H := Lib.hid h
  clear h
  go_enter Tryd.func19, Tryd.ntmps19
  go_wp2_with fail
  refine (exponents_any a b c _).mono ?_
  rintro e w1 ⟨rfl, hb1⟩
  have HB : Hid (Below w.heap.size w w1) := below_step (by repeat (first | (with_reducible first | exact HB.out | exact Below.refl _ _ | apply below_alloc | apply bdr | apply below_drew1) | (refine below_set ?_ (by first | omega | (simp; done) | (simp; omega))) | exact HB.out | exact Below.refl _ _)) hb1
  clear hb1
  go_wp2_with fail
  refine (of_yes a b c _ H.out).mono ?_
  rintro e w2 ⟨rfl, hb2⟩
  replace HB : Hid (Below w.heap.size w w2) := below_step (by repeat (first | (with_reducible first | exact HB.out | exact Below.refl _ _ | apply below_alloc | apply bdr | apply below_drew1) | (refine below_set ?_ (by first | omega | (simp; done) | (simp; omega))) | exact HB.out | exact Below.refl _ _)) hb2
  clear hb2
  go_wp2_with fail
  go_ret
  exact ⟨rfl, (by repeat (first | (with_reducible first | exact HB.out | exact Below.refl _ _ | apply below_alloc | apply bdr | apply below_drew1) | (refine below_set ?_ (by first | omega | (simp; done) | (simp; omega))) | exact HB.out | exact Below.refl _ _))⟩

set_option maxRecDepth 100000 in
set_option maxHeartbeats 2000000 in
theorem valid_no (a b c : Int) (w : World) (h : ¬ okU a b c) :
    Calls Tryd.prog 19 #[.agg #[.int .i64 a, .int .i64 b, .int .i64 c]] w fun e w' => e = .returned (.bool false) ∧ Below w.heap.size w w' := by
  have H := Lib.hid h
  clear h
  go_enter Tryd.func19, Tryd.ntmps19
  go_wp2_with fail
  refine (exponents_any a b c _).mono ?_
  rintro e w1 ⟨rfl, hb1⟩
  have HB : Hid (Below w.heap.size w w1) := below_step (by repeat (first | (with_reducible first | exact HB.out | exact Below.refl _ _ | apply below_alloc | apply bdr | apply below_drew1) | (refine below_set ?_ (by first | omega | (simp; done) | (simp; omega))) | exact HB.out | exact Below.refl _ _)) hb1
  clear hb1
  go_wp2_with fail
  refine (of_no a b c _ H.out).mono ?_
  rintro e w2 ⟨rfl, hb2⟩
  replace HB : Hid (Below w.heap.size w w2) := below_step (by repeat (first | (with_reducible first | exact HB.out | exact Below.refl _ _ | apply below_alloc | apply bdr | apply below_drew1) | (refine below_set ?_ (by first | omega | (simp; done) | (simp; omega))) | exact HB.out | exact Below.refl _ _)) hb2
  clear hb2
  go_wp2_with fail
  go_ret
  exact ⟨rfl, (by repeat (first | (with_reducible first | exact HB.out | exact Below.refl _ _ | apply below_alloc | apply bdr | apply below_drew1) | (refine below_set ?_ (by first | omega | (simp; done) | (simp; omega))) | exact HB.out | exact Below.refl _ _))⟩

end Go.Proofs.YtifamjapgpcjjaaDoor.Ext
