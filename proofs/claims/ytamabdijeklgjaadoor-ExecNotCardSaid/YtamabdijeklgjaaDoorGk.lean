/- Several texts in one (UnitA UnitB Mul). -/
import Derived.Test.YtamabdijeklgjaaDoorGb
import Derived.WalkKit
import Derived.OwnWalk
import Derived.Deep.QuietTactic
import Derived.BigQuiet
import Derived.WideLaws
import Derived.Test.YtamabdijeklgjaaDoorL0
/- unit: exponents, of, valid, walked. -/
namespace Go.Proofs.YtamabdijeklgjaaDoor.Ext
open Go Go.Proofs Go.RowKit Go.Proofs.YtamabdijeklgjaaDoorW.PrintWords

def okE (n : Int) : Prop := -8 ≤ n ∧ n ≤ 8
instance (n : Int) : Decidable (okE n) := by unfold okE; infer_instance
def okU (a b c : Int) : Prop := okE a ∧ okE b ∧ okE c
instance (a b c : Int) : Decidable (okU a b c) := by unfold okU; infer_instance

set_option maxRecDepth 100000 in
set_option maxHeartbeats 1000000 in
theorem exponents_any (a b c : Int) (w : World) :
    Calls Tryd.prog 30 #[.agg #[.int .i64 a, .int .i64 b, .int .i64 c]] w fun e w' => e = .returned (.agg #[.int .i64 a, .int .i64 b, .int .i64 c]) ∧ Below w.heap.size w w' := by
  go_enter Tryd.func30, Tryd.ntmps30
  go_wp2
  refine bodyPost_ret (v := .agg #[.int .i64 a, .int .i64 b, .int .i64 c]) (by simp [results, Tryd.results30, go_sem]) rfl ⟨rfl, ((Below.refl _ _).alloc (Nat.le_refl _) _).alloc (by simp) _⟩

theorem idx0 (x y z : Value) (w : World) : (Instr.index 74 (.agg #[x, y, z]) (.int .i64 0)).run Tryd.prog w = .ok x w := by kernel_rfl
theorem idx1 (x y z : Value) (w : World) : (Instr.index 74 (.agg #[x, y, z]) (.int .i64 1)).run Tryd.prog w = .ok y w := by kernel_rfl
theorem idx2 (x y z : Value) (w : World) : (Instr.index 74 (.agg #[x, y, z]) (.int .i64 2)).run Tryd.prog w = .ok z w := by kernel_rfl

set_option maxRecDepth 100000 in
set_option maxHeartbeats 1000000 in
theorem of_yes (a b c : Int) (w : World) (h : okU a b c) :
    Calls Tryd.prog 31 #[.agg #[.int .i64 a, .int .i64 b, .int .i64 c]] w fun e w' => e = .returned (.tuple #[.agg #[.int .i64 a, .int .i64 b, .int .i64 c], .bool true]) ∧ Below w.heap.size w w' := by
  obtain ⟨⟨a1, a2⟩, ⟨b1, b2⟩, ⟨c1, c2⟩⟩ := h
  have i0 := idx0 (.int .i64 a) (.int .i64 b) (.int .i64 c)
  have i1 := idx1 (.int .i64 a) (.int .i64 b) (.int .i64 c)
  have i2 := idx2 (.int .i64 a) (.int .i64 b) (.int .i64 c)
  go_enter Tryd.func31, Tryd.ntmps31
  go_wp2
  refine wp_loop_rounds 4 ?_
  rw [rounds_succ]
  go_wp2
  rw [rounds_succ]
  go_wp2
  rw [rounds_succ]
  go_wp2
  rw [rounds_succ]
  go_wp2
  refine bodyPost_ret (v := .tuple #[.agg #[.int .i64 a, .int .i64 b, .int .i64 c], .bool true]) (by simp [results, Tryd.results31, go_sem]) rfl ⟨rfl, ((Below.refl _ _).alloc (Nat.le_refl _) _).alloc (by simp) _⟩

set_option maxRecDepth 100000 in
set_option maxHeartbeats 2000000 in
theorem of_no_a_lo (a b c : Int) (w : World) (h : a < -8) :
    Calls Tryd.prog 31 #[.agg #[.int .i64 a, .int .i64 b, .int .i64 c]] w fun e w' => e = .returned (.tuple #[.agg #[.int .i64 0, .int .i64 0, .int .i64 0], .bool false]) ∧ Below w.heap.size w w' := by
  have i0 := idx0 (.int .i64 a) (.int .i64 b) (.int .i64 c)
  have i1 := idx1 (.int .i64 a) (.int .i64 b) (.int .i64 c)
  have i2 := idx2 (.int .i64 a) (.int .i64 b) (.int .i64 c)
  go_enter Tryd.func31, Tryd.ntmps31
  go_wp2
  refine wp_loop_rounds 4 ?_
  rw [rounds_succ]
  go_wp2
  refine bodyPost_ret (v := .tuple #[.agg #[.int .i64 0, .int .i64 0, .int .i64 0], .bool false]) (by simp [results, Tryd.results31, go_sem]) rfl ⟨rfl, ((Below.refl _ _).alloc (Nat.le_refl _) _).alloc (by simp) _⟩

set_option maxRecDepth 100000 in
set_option maxHeartbeats 2000000 in
theorem of_no_a_hi (a b c : Int) (w : World) (h : 8 < a) :
    Calls Tryd.prog 31 #[.agg #[.int .i64 a, .int .i64 b, .int .i64 c]] w fun e w' => e = .returned (.tuple #[.agg #[.int .i64 0, .int .i64 0, .int .i64 0], .bool false]) ∧ Below w.heap.size w w' := by
  have h' : ¬ a < -8 := by omega
  have i0 := idx0 (.int .i64 a) (.int .i64 b) (.int .i64 c)
  have i1 := idx1 (.int .i64 a) (.int .i64 b) (.int .i64 c)
  have i2 := idx2 (.int .i64 a) (.int .i64 b) (.int .i64 c)
  go_enter Tryd.func31, Tryd.ntmps31
  go_wp2
  refine wp_loop_rounds 4 ?_
  rw [rounds_succ]
  go_wp2
  refine bodyPost_ret (v := .tuple #[.agg #[.int .i64 0, .int .i64 0, .int .i64 0], .bool false]) (by simp [results, Tryd.results31, go_sem]) rfl ⟨rfl, ((Below.refl _ _).alloc (Nat.le_refl _) _).alloc (by simp) _⟩

set_option maxRecDepth 100000 in
set_option maxHeartbeats 2000000 in
theorem of_no_b_lo (a b c : Int) (w : World) (a1 : -8 ≤ a) (a2 : a ≤ 8) (h : b < -8) :
    Calls Tryd.prog 31 #[.agg #[.int .i64 a, .int .i64 b, .int .i64 c]] w fun e w' => e = .returned (.tuple #[.agg #[.int .i64 0, .int .i64 0, .int .i64 0], .bool false]) ∧ Below w.heap.size w w' := by
  have i0 := idx0 (.int .i64 a) (.int .i64 b) (.int .i64 c)
  have i1 := idx1 (.int .i64 a) (.int .i64 b) (.int .i64 c)
  have i2 := idx2 (.int .i64 a) (.int .i64 b) (.int .i64 c)
  go_enter Tryd.func31, Tryd.ntmps31
  go_wp2
  refine wp_loop_rounds 4 ?_
  rw [rounds_succ]
  go_wp2
  rw [rounds_succ]
  go_wp2
  refine bodyPost_ret (v := .tuple #[.agg #[.int .i64 0, .int .i64 0, .int .i64 0], .bool false]) (by simp [results, Tryd.results31, go_sem]) rfl ⟨rfl, ((Below.refl _ _).alloc (Nat.le_refl _) _).alloc (by simp) _⟩

set_option maxRecDepth 100000 in
set_option maxHeartbeats 2000000 in
theorem of_no_b_hi (a b c : Int) (w : World) (a1 : -8 ≤ a) (a2 : a ≤ 8) (h : 8 < b) :
    Calls Tryd.prog 31 #[.agg #[.int .i64 a, .int .i64 b, .int .i64 c]] w fun e w' => e = .returned (.tuple #[.agg #[.int .i64 0, .int .i64 0, .int .i64 0], .bool false]) ∧ Below w.heap.size w w' := by
  have h' : ¬ b < -8 := by omega
  have i0 := idx0 (.int .i64 a) (.int .i64 b) (.int .i64 c)
  have i1 := idx1 (.int .i64 a) (.int .i64 b) (.int .i64 c)
  have i2 := idx2 (.int .i64 a) (.int .i64 b) (.int .i64 c)
  go_enter Tryd.func31, Tryd.ntmps31
  go_wp2
  refine wp_loop_rounds 4 ?_
  rw [rounds_succ]
  go_wp2
  rw [rounds_succ]
  go_wp2
  refine bodyPost_ret (v := .tuple #[.agg #[.int .i64 0, .int .i64 0, .int .i64 0], .bool false]) (by simp [results, Tryd.results31, go_sem]) rfl ⟨rfl, ((Below.refl _ _).alloc (Nat.le_refl _) _).alloc (by simp) _⟩

set_option maxRecDepth 100000 in
set_option maxHeartbeats 2000000 in
theorem of_no_c_lo (a b c : Int) (w : World) (a1 : -8 ≤ a) (a2 : a ≤ 8) (b1 : -8 ≤ b) (b2 : b ≤ 8) (h : c < -8) :
    Calls Tryd.prog 31 #[.agg #[.int .i64 a, .int .i64 b, .int .i64 c]] w fun e w' => e = .returned (.tuple #[.agg #[.int .i64 0, .int .i64 0, .int .i64 0], .bool false]) ∧ Below w.heap.size w w' := by
  have i0 := idx0 (.int .i64 a) (.int .i64 b) (.int .i64 c)
  have i1 := idx1 (.int .i64 a) (.int .i64 b) (.int .i64 c)
  have i2 := idx2 (.int .i64 a) (.int .i64 b) (.int .i64 c)
  go_enter Tryd.func31, Tryd.ntmps31
  go_wp2
  refine wp_loop_rounds 4 ?_
  rw [rounds_succ]
  go_wp2
  rw [rounds_succ]
  go_wp2
  rw [rounds_succ]
  go_wp2
  refine bodyPost_ret (v := .tuple #[.agg #[.int .i64 0, .int .i64 0, .int .i64 0], .bool false]) (by simp [results, Tryd.results31, go_sem]) rfl ⟨rfl, ((Below.refl _ _).alloc (Nat.le_refl _) _).alloc (by simp) _⟩

set_option maxRecDepth 100000 in
set_option maxHeartbeats 2000000 in
theorem of_no_c_hi (a b c : Int) (w : World) (a1 : -8 ≤ a) (a2 : a ≤ 8) (b1 : -8 ≤ b) (b2 : b ≤ 8) (h : 8 < c) :
    Calls Tryd.prog 31 #[.agg #[.int .i64 a, .int .i64 b, .int .i64 c]] w fun e w' => e = .returned (.tuple #[.agg #[.int .i64 0, .int .i64 0, .int .i64 0], .bool false]) ∧ Below w.heap.size w w' := by
  have h' : ¬ c < -8 := by omega
  have i0 := idx0 (.int .i64 a) (.int .i64 b) (.int .i64 c)
  have i1 := idx1 (.int .i64 a) (.int .i64 b) (.int .i64 c)
  have i2 := idx2 (.int .i64 a) (.int .i64 b) (.int .i64 c)
  go_enter Tryd.func31, Tryd.ntmps31
  go_wp2
  refine wp_loop_rounds 4 ?_
  rw [rounds_succ]
  go_wp2
  rw [rounds_succ]
  go_wp2
  rw [rounds_succ]
  go_wp2
  refine bodyPost_ret (v := .tuple #[.agg #[.int .i64 0, .int .i64 0, .int .i64 0], .bool false]) (by simp [results, Tryd.results31, go_sem]) rfl ⟨rfl, ((Below.refl _ _).alloc (Nat.le_refl _) _).alloc (by simp) _⟩

theorem of_no (a b c : Int) (w : World) (h : ¬ okU a b c) :
    Calls Tryd.prog 31 #[.agg #[.int .i64 a, .int .i64 b, .int .i64 c]] w fun e w' => e = .returned (.tuple #[.agg #[.int .i64 0, .int .i64 0, .int .i64 0], .bool false]) ∧ Below w.heap.size w w' := by
  unfold okU okE at h
  by_cases a1 : a < -8
  · exact of_no_a_lo a b c w a1
  by_cases a2 : 8 < a
  · exact of_no_a_hi a b c w a2
  by_cases b1 : b < -8
  · exact of_no_b_lo a b c w (by omega) (by omega) b1
  by_cases b2 : 8 < b
  · exact of_no_b_hi a b c w (by omega) (by omega) b2
  by_cases c1 : c < -8
  · exact of_no_c_lo a b c w (by omega) (by omega) (by omega) (by omega) c1
  · exact of_no_c_hi a b c w (by omega) (by omega) (by omega) (by omega) (by omega)

set_option maxRecDepth 100000 in
set_option maxHeartbeats 2000000 in
theorem valid_yes (a b c : Int) (w : World) (h : okU a b c) :
    Calls Tryd.prog 29 #[.agg #[.int .i64 a, .int .i64 b, .int .i64 c]] w fun e w' => e = .returned (.bool true) ∧ Below w.heap.size w w' := by
  have H := Lib.hid h
  clear h
  go_enter Tryd.func29, Tryd.ntmps29
  go_wp2_with fail
  refine (exponents_any a b c _).mono ?_
  rintro e w1 ⟨rfl, hb1⟩
  have HB : Hid (Below w.heap.size w w1) := below_step (by repeat (first | (with_reducible first | exact HB.out | exact Below.refl _ _ | apply below_alloc | apply bdr | apply below_drew1) | (refine below_set ?_ (by first | omega | (simp; done) | (simp; omega))) | exact HB.out | exact Below.refl _ _)) hb1
  clear hb1
  go_wp2_with fail
  refine (of_yes a b c _ H.out).mono ?_
  rintro e w2 ⟨rfl, hb2⟩
  replace HB : Hid (Below w.heap.size w w2) := below_step (by repeat (first | (with_reducible first | exact HB.out | exact Below.refl _ _ | apply below_alloc | apply bdr | apply below_drew1) | (refine below_set ?_ (by first | omega | (simp; done) | (simp; omega))) | exact HB.out | exact Below.refl _ _)) hb2
  clear hb2
  go_wp2_with fail
  go_ret
  exact ⟨rfl, (by repeat (first | (with_reducible first | exact HB.out | exact Below.refl _ _ | apply below_alloc | apply bdr | apply below_drew1) | (refine below_set ?_ (by first | omega | (simp; done) | (simp; omega))) | exact HB.out | exact Below.refl _ _))⟩

set_option maxRecDepth 100000 in
set_option maxHeartbeats 2000000 in
theorem valid_no (a b c : Int) (w : World) (h : ¬ okU a b c) :
    Calls Tryd.prog 29 #[.agg #[.int .i64 a, .int .i64 b, .int .i64 c]] w fun e w' => e = .returned (.bool false) ∧ Below w.heap.size w w' := by
  have H := Lib.hid h
  clear h
  go_enter Tryd.func29, Tryd.ntmps29
  go_wp2_with fail
  refine (exponents_any a b c _).mono ?_
  rintro e w1 ⟨rfl, hb1⟩
  have HB : Hid (Below w.heap.size w w1) := below_step (by repeat (first | (with_reducible first | exact HB.out | exact Below.refl _ _ | apply below_alloc | apply bdr | apply below_drew1) | (refine below_set ?_ (by first | omega | (simp; done) | (simp; omega))) | exact HB.out | exact Below.refl _ _)) hb1
  clear hb1
  go_wp2_with fail
  refine (of_no a b c _ H.out).mono ?_
  rintro e w2 ⟨rfl, hb2⟩
  replace HB : Hid (Below w.heap.size w w2) := below_step (by repeat (first | (with_reducible first | exact HB.out | exact Below.refl _ _ | apply below_alloc | apply bdr | apply below_drew1) | (refine below_set ?_ (by first | omega | (simp; done) | (simp; omega))) | exact HB.out | exact Below.refl _ _)) hb2
  clear hb2
  go_wp2_with fail
  go_ret
  exact ⟨rfl, (by repeat (first | (with_reducible first | exact HB.out | exact Below.refl _ _ | apply below_alloc | apply bdr | apply below_drew1) | (refine below_set ?_ (by first | omega | (simp; done) | (simp; omega))) | exact HB.out | exact Below.refl _ _))⟩

end Go.Proofs.YtamabdijeklgjaaDoor.Ext

/- unit.Mul and unit.Power, walked. -/
namespace Go.Proofs.YtamabdijeklgjaaDoor.Ext
open Go Go.Proofs Go.RowKit Go.Proofs.YtamabdijeklgjaaDoorW.PrintWords
set_option linter.unusedVariables false

theorem alloc3_blk (w : World) (o1 o2 o3 : Obj) : (((w.alloc o1).alloc o2).alloc o3).heap[w.heap.size]? = some o1 ∧ (((w.alloc o1).alloc o2).alloc o3).heap[w.heap.size + 1]? = some o2 ∧ (((w.alloc o1).alloc o2).alloc o3).heap[w.heap.size + 1 + 1]? = some o3 := by
  refine ⟨blk_alloc (blk_alloc (blk_new _ _) _) _, ?_, ?_⟩
  · have h := blk_new (w.alloc o1) o2
    rw [World.size_alloc] at h
    exact blk_alloc h _
  · have h := blk_new ((w.alloc o1).alloc o2) o3
    rw [World.size_alloc, World.size_alloc] at h
    exact h
theorem put3 {W : World} {b : Nat} {t : TypeId} {p q r : Value} (h : W.heap[b]? = some (.cells #[p, q, r] t (0, 0))) (x y z : Value) : (((W.setCell ⟨b, 0, none⟩ x).setCell ⟨b, 1, none⟩ y).setCell ⟨b, 2, none⟩ z).heap[b]? = some (.cells #[x, y, z] t (0, 0)) :=
  blk_put (blk_put (blk_put h 0 _ rfl) 1 _ rfl) 2 _ rfl
theorem far3 {W : World} {g b : Nat} {t : TypeId} {cs : Array Value} (h : W.heap[g]? = some (.cells cs t (0, 0))) (hne : g ≠ b) (x y z : Value) : (((W.setCell ⟨b, 0, none⟩ x).setCell ⟨b, 1, none⟩ y).setCell ⟨b, 2, none⟩ z).heap[g]? = some (.cells cs t (0, 0)) :=
  blk_far (blk_far (blk_far h hne _) hne _) hne _
theorem resM {tmps : Array Value} {W : World} {R : Nat} {p q r v : Value} (h4 : tmps[4]? = some (.pointer (some ⟨R, 0, none⟩))) (h5 : tmps[5]? = some v) (h : W.heap[R]? = some (.cells #[p, q, r] 34 (0, 0))) :
    (results Tryd.f14 tmps).run Tryd.prog W = .ok (.tuple #[.agg #[p, q, r], v]) W := by
  have c0 := blk_cell h 0
  have c1 := blk_cell h 1
  have c2 := blk_cell h 2
  simp [results, Tryd.f14, go_sem, h4, h5, c0, c1, c2]

set_option maxRecDepth 100000 in
set_option maxHeartbeats 2000000 in
theorem mul_no_a (a b c x y z : Int) (w : World) (h : ¬ okU a b c) :
    Calls Tryd.prog 14 #[.agg #[.int .i64 a, .int .i64 b, .int .i64 c], .agg #[.int .i64 x, .int .i64 y, .int .i64 z]] w fun e w' => e = .returned (.tuple #[.agg #[.int .i64 0, .int .i64 0, .int .i64 0], .int .i64 1]) ∧ Below w.heap.size w w' := by
  have H := Lib.hid h
  clear h
  have h3 := alloc3_blk w (.cells #[.int .i64 a, .int .i64 b, .int .i64 c] 34) (.cells #[.int .i64 x, .int .i64 y, .int .i64 z] 34) (.cells #[.int .i64 0, .int .i64 0, .int .i64 0] 34)
  go_enter Tryd.func14, Tryd.ntmps14
  go_wp2_with fail
  refine (valid_no a b c _ H.out).mono ?_
  rintro e w1 ⟨rfl, hb1⟩
  have KR : Hid (w1.heap[w.heap.size + 1 + 1]? = some (.cells #[.int .i64 0, .int .i64 0, .int .i64 0] 34 (0, 0))) := blk_below h3.2.2 hb1
  have cR_0 := blk_cell KR.out 0
  have fR_0 := blk_frozen KR.out 0
  have cR_1 := blk_cell KR.out 1
  have fR_1 := blk_frozen KR.out 1
  have cR_2 := blk_cell KR.out 2
  have fR_2 := blk_frozen KR.out 2
  have HB : Hid (Below w.heap.size w w1) := below_step (by repeat (first | (with_reducible first | exact HB.out | exact Below.refl _ _ | apply below_alloc | apply bdr | apply below_drew1) | (refine below_set ?_ (by first | omega | (simp; done) | (simp; omega))) | exact HB.out | exact Below.refl _ _)) hb1
  clear hb1
  go_wp2_with fail
  refine bodyPost_ret (v := .tuple #[.agg #[.int .i64 0, .int .i64 0, .int .i64 0], .int .i64 1]) (resM rfl rfl (put3 KR.out _ _ _)) rfl ⟨rfl, (by repeat (first | (with_reducible first | exact HB.out | exact Below.refl _ _ | apply below_alloc | apply bdr | apply below_drew1) | (refine below_set ?_ (by first | omega | (simp; done) | (simp; omega))) | exact HB.out | exact Below.refl _ _))⟩

set_option maxRecDepth 100000 in
set_option maxHeartbeats 2000000 in
theorem mul_no_x (a b c x y z : Int) (w : World) (h : okU a b c) (hx : ¬ okU x y z) :
    Calls Tryd.prog 14 #[.agg #[.int .i64 a, .int .i64 b, .int .i64 c], .agg #[.int .i64 x, .int .i64 y, .int .i64 z]] w fun e w' => e = .returned (.tuple #[.agg #[.int .i64 0, .int .i64 0, .int .i64 0], .int .i64 1]) ∧ Below w.heap.size w w' := by
  have H := Lib.hid h
  have HX := Lib.hid hx
  clear h hx
  have h3 := alloc3_blk w (.cells #[.int .i64 a, .int .i64 b, .int .i64 c] 34) (.cells #[.int .i64 x, .int .i64 y, .int .i64 z] 34) (.cells #[.int .i64 0, .int .i64 0, .int .i64 0] 34)
  go_enter Tryd.func14, Tryd.ntmps14
  go_wp2_with fail
  refine (valid_yes a b c _ H.out).mono ?_
  rintro e w1 ⟨rfl, hb1⟩
  have KR : Hid (w1.heap[w.heap.size + 1 + 1]? = some (.cells #[.int .i64 0, .int .i64 0, .int .i64 0] 34 (0, 0))) := blk_below h3.2.2 hb1
  have KX : Hid (w1.heap[w.heap.size + 1]? = some (.cells #[.int .i64 x, .int .i64 y, .int .i64 z] 34 (0, 0))) := blk_below h3.2.1 hb1
  have cR_0 := blk_cell KR.out 0
  have fR_0 := blk_frozen KR.out 0
  have cR_1 := blk_cell KR.out 1
  have fR_1 := blk_frozen KR.out 1
  have cR_2 := blk_cell KR.out 2
  have fR_2 := blk_frozen KR.out 2
  have cX_0 := blk_cell KX.out 0
  have fX_0 := blk_frozen KX.out 0
  have cX_1 := blk_cell KX.out 1
  have fX_1 := blk_frozen KX.out 1
  have cX_2 := blk_cell KX.out 2
  have fX_2 := blk_frozen KX.out 2
  have HB : Hid (Below w.heap.size w w1) := below_step (by repeat (first | (with_reducible first | exact HB.out | exact Below.refl _ _ | apply below_alloc | apply bdr | apply below_drew1) | (refine below_set ?_ (by first | omega | (simp; done) | (simp; omega))) | exact HB.out | exact Below.refl _ _)) hb1
  clear hb1
  go_wp2_with fail
  refine (valid_no x y z _ HX.out).mono ?_
  rintro e w2 ⟨rfl, hb2⟩
  clear cR_0 fR_0 cR_1 fR_1 cR_2 fR_2
  replace KR : Hid (w2.heap[w.heap.size + 1 + 1]? = some (.cells #[.int .i64 0, .int .i64 0, .int .i64 0] 34 (0, 0))) := blk_below (by repeat (first | (with_reducible first | exact KR.out | apply blk_drewN | apply blk_drew | apply blk_alloc) | exact KR.out)) hb2
  have cR_0 := blk_cell KR.out 0
  have fR_0 := blk_frozen KR.out 0
  have cR_1 := blk_cell KR.out 1
  have fR_1 := blk_frozen KR.out 1
  have cR_2 := blk_cell KR.out 2
  have fR_2 := blk_frozen KR.out 2
  replace HB : Hid (Below w.heap.size w w2) := below_step (by repeat (first | (with_reducible first | exact HB.out | exact Below.refl _ _ | apply below_alloc | apply bdr | apply below_drew1) | (refine below_set ?_ (by first | omega | (simp; done) | (simp; omega))) | exact HB.out | exact Below.refl _ _)) hb2
  clear hb2
  go_wp2_with fail
  refine bodyPost_ret (v := .tuple #[.agg #[.int .i64 0, .int .i64 0, .int .i64 0], .int .i64 1]) (resM rfl rfl (put3 KR.out _ _ _)) rfl ⟨rfl, (by repeat (first | (with_reducible first | exact HB.out | exact Below.refl _ _ | apply below_alloc | apply bdr | apply below_drew1) | (refine below_set ?_ (by first | omega | (simp; done) | (simp; omega))) | exact HB.out | exact Below.refl _ _))⟩

set_option maxRecDepth 100000 in
set_option maxHeartbeats 2000000 in
theorem mul_yes (a b c x y z : Int) (w : World) (h : okU a b c) (hx : okU x y z) (hs : okU (a + x) (b + y) (c + z)) :
    Calls Tryd.prog 14 #[.agg #[.int .i64 a, .int .i64 b, .int .i64 c], .agg #[.int .i64 x, .int .i64 y, .int .i64 z]] w fun e w' => e = .returned (.tuple #[.agg #[.int .i64 (a + x), .int .i64 (b + y), .int .i64 (c + z)], .int .i64 0]) ∧ Below w.heap.size w w' := by
  have H := Lib.hid h
  have HX := Lib.hid hx
  have HS := Lib.hid hs
  obtain ⟨⟨a1, a2⟩, ⟨b1, b2⟩, ⟨c1, c2⟩⟩ := h
  obtain ⟨⟨x1, x2⟩, ⟨y1, y2⟩, ⟨z1, z2⟩⟩ := hx
  clear hs
  have h3 := alloc3_blk w (.cells #[.int .i64 a, .int .i64 b, .int .i64 c] 34) (.cells #[.int .i64 x, .int .i64 y, .int .i64 z] 34) (.cells #[.int .i64 0, .int .i64 0, .int .i64 0] 34)
  have i0 := idx0 (.int .i64 x) (.int .i64 y) (.int .i64 z)
  have i1 := idx1 (.int .i64 x) (.int .i64 y) (.int .i64 z)
  have i2 := idx2 (.int .i64 x) (.int .i64 y) (.int .i64 z)
  go_enter Tryd.func14, Tryd.ntmps14
  go_wp2_with fail
  refine (valid_yes a b c _ H.out).mono ?_
  rintro e w1 ⟨rfl, hb1⟩
  have KA : Hid (w1.heap[w.heap.size]? = some (.cells #[.int .i64 a, .int .i64 b, .int .i64 c] 34 (0, 0))) := blk_below h3.1 hb1
  have KR : Hid (w1.heap[w.heap.size + 1 + 1]? = some (.cells #[.int .i64 0, .int .i64 0, .int .i64 0] 34 (0, 0))) := blk_below h3.2.2 hb1
  have KX : Hid (w1.heap[w.heap.size + 1]? = some (.cells #[.int .i64 x, .int .i64 y, .int .i64 z] 34 (0, 0))) := blk_below h3.2.1 hb1
  have cA_0 := blk_cell KA.out 0
  have fA_0 := blk_frozen KA.out 0
  have cA_1 := blk_cell KA.out 1
  have fA_1 := blk_frozen KA.out 1
  have cA_2 := blk_cell KA.out 2
  have fA_2 := blk_frozen KA.out 2
  have cR_0 := blk_cell KR.out 0
  have fR_0 := blk_frozen KR.out 0
  have cR_1 := blk_cell KR.out 1
  have fR_1 := blk_frozen KR.out 1
  have cR_2 := blk_cell KR.out 2
  have fR_2 := blk_frozen KR.out 2
  have cX_0 := blk_cell KX.out 0
  have fX_0 := blk_frozen KX.out 0
  have cX_1 := blk_cell KX.out 1
  have fX_1 := blk_frozen KX.out 1
  have cX_2 := blk_cell KX.out 2
  have fX_2 := blk_frozen KX.out 2
  have HB : Hid (Below w.heap.size w w1) := below_step (by repeat (first | (with_reducible first | exact HB.out | exact Below.refl _ _ | apply below_alloc | apply bdr | apply below_drew1) | (refine below_set ?_ (by first | omega | (simp; done) | (simp; omega))) | exact HB.out | exact Below.refl _ _)) hb1
  clear hb1
  go_wp2_with fail
  refine (valid_yes x y z _ HX.out).mono ?_
  rintro e w2 ⟨rfl, hb2⟩
  clear cA_0 fA_0 cA_1 fA_1 cA_2 fA_2
  replace KA : Hid (w2.heap[w.heap.size]? = some (.cells #[.int .i64 a, .int .i64 b, .int .i64 c] 34 (0, 0))) := blk_below (by repeat (first | (with_reducible first | exact KA.out | apply blk_drewN | apply blk_drew | apply blk_alloc) | exact KA.out)) hb2
  have cA_0 := blk_cell KA.out 0
  have fA_0 := blk_frozen KA.out 0
  have cA_1 := blk_cell KA.out 1
  have fA_1 := blk_frozen KA.out 1
  have cA_2 := blk_cell KA.out 2
  have fA_2 := blk_frozen KA.out 2
  clear cR_0 fR_0 cR_1 fR_1 cR_2 fR_2
  replace KR : Hid (w2.heap[w.heap.size + 1 + 1]? = some (.cells #[.int .i64 0, .int .i64 0, .int .i64 0] 34 (0, 0))) := blk_below (by repeat (first | (with_reducible first | exact KR.out | apply blk_drewN | apply blk_drew | apply blk_alloc) | exact KR.out)) hb2
  have cR_0 := blk_cell KR.out 0
  have fR_0 := blk_frozen KR.out 0
  have cR_1 := blk_cell KR.out 1
  have fR_1 := blk_frozen KR.out 1
  have cR_2 := blk_cell KR.out 2
  have fR_2 := blk_frozen KR.out 2
  clear cX_0 fX_0 cX_1 fX_1 cX_2 fX_2
  replace KX : Hid (w2.heap[w.heap.size + 1]? = some (.cells #[.int .i64 x, .int .i64 y, .int .i64 z] 34 (0, 0))) := blk_below (by repeat (first | (with_reducible first | exact KX.out | apply blk_drewN | apply blk_drew | apply blk_alloc) | exact KX.out)) hb2
  have cX_0 := blk_cell KX.out 0
  have fX_0 := blk_frozen KX.out 0
  have cX_1 := blk_cell KX.out 1
  have fX_1 := blk_frozen KX.out 1
  have cX_2 := blk_cell KX.out 2
  have fX_2 := blk_frozen KX.out 2
  replace HB : Hid (Below w.heap.size w w2) := below_step (by repeat (first | (with_reducible first | exact HB.out | exact Below.refl _ _ | apply below_alloc | apply bdr | apply below_drew1) | (refine below_set ?_ (by first | omega | (simp; done) | (simp; omega))) | exact HB.out | exact Below.refl _ _)) hb2
  clear hb2
  go_wp2_with fail
  refine (exponents_any a b c _).mono ?_
  rintro e w3 ⟨rfl, hb3⟩
  clear cR_0 fR_0 cR_1 fR_1 cR_2 fR_2
  replace KR : Hid (w3.heap[w.heap.size + 1 + 1]? = some (.cells #[.int .i64 0, .int .i64 0, .int .i64 0] 34 (0, 0))) := blk_below (by repeat (first | (with_reducible first | exact KR.out | apply blk_drewN | apply blk_drew | apply blk_alloc) | exact KR.out)) hb3
  have cR_0 := blk_cell KR.out 0
  have fR_0 := blk_frozen KR.out 0
  have cR_1 := blk_cell KR.out 1
  have fR_1 := blk_frozen KR.out 1
  have cR_2 := blk_cell KR.out 2
  have fR_2 := blk_frozen KR.out 2
  clear cX_0 fX_0 cX_1 fX_1 cX_2 fX_2
  replace KX : Hid (w3.heap[w.heap.size + 1]? = some (.cells #[.int .i64 x, .int .i64 y, .int .i64 z] 34 (0, 0))) := blk_below (by repeat (first | (with_reducible first | exact KX.out | apply blk_drewN | apply blk_drew | apply blk_alloc) | exact KX.out)) hb3
  have cX_0 := blk_cell KX.out 0
  have fX_0 := blk_frozen KX.out 0
  have cX_1 := blk_cell KX.out 1
  have fX_1 := blk_frozen KX.out 1
  have cX_2 := blk_cell KX.out 2
  have fX_2 := blk_frozen KX.out 2
  replace HB : Hid (Below w.heap.size w w3) := below_step (by repeat (first | (with_reducible first | exact HB.out | exact Below.refl _ _ | apply below_alloc | apply bdr | apply below_drew1) | (refine below_set ?_ (by first | omega | (simp; done) | (simp; omega))) | exact HB.out | exact Below.refl _ _)) hb3
  clear hb3
  clear cA_0 cA_1 cA_2 fA_0 fA_1 fA_2 KA
  have hlt := blk_lt KR.out
  have gX_0 := fun o => blk_cell (blk_alloc KX.out o) 0
  have hX_0 := fun o => blk_frozen (blk_alloc KX.out o) 0
  have gX_1 := fun o => blk_cell (blk_alloc KX.out o) 1
  have hX_1 := fun o => blk_frozen (blk_alloc KX.out o) 1
  have gX_2 := fun o => blk_cell (blk_alloc KX.out o) 2
  have hX_2 := fun o => blk_frozen (blk_alloc KX.out o) 2
  go_wp2_with fail
  refine (exponents_any x y z _).mono ?_
  rintro e w4 ⟨rfl, hb4⟩
  have KN : Hid (w4.heap[w3.heap.size]? = some (.cells #[.int .i64 a, .int .i64 b, .int .i64 c] 74 (0, 0))) := blk_below (blk_new w3 _) hb4
  clear cR_0 fR_0 cR_1 fR_1 cR_2 fR_2
  replace KR : Hid (w4.heap[w.heap.size + 1 + 1]? = some (.cells #[.int .i64 0, .int .i64 0, .int .i64 0] 34 (0, 0))) := blk_below (by repeat (first | (with_reducible first | exact KR.out | apply blk_drewN | apply blk_drew | apply blk_alloc) | exact KR.out)) hb4
  have cR_0 := blk_cell KR.out 0
  have fR_0 := blk_frozen KR.out 0
  have cR_1 := blk_cell KR.out 1
  have fR_1 := blk_frozen KR.out 1
  have cR_2 := blk_cell KR.out 2
  have fR_2 := blk_frozen KR.out 2
  replace HB : Hid (Below w.heap.size w w4) := below_step (by repeat (first | (with_reducible first | exact HB.out | exact Below.refl _ _ | apply below_alloc | apply bdr | apply below_drew1) | (refine below_set ?_ (by first | omega | (simp; done) | (simp; omega))) | exact HB.out | exact Below.refl _ _)) hb4
  clear hb4
  clear cX_0 cX_1 cX_2 fX_0 fX_1 fX_2 gX_0 gX_1 gX_2 hX_0 hX_1 hX_2 KX
  go_wp2_with fail
  have cN_0 := blk_cell KN.out 0
  have fN_0 := blk_frozen KN.out 0
  have cN_1 := blk_cell KN.out 1
  have fN_1 := blk_frozen KN.out 1
  have cN_2 := blk_cell KN.out 2
  have fN_2 := blk_frozen KN.out 2
  refine wp_loop_rounds 4 ?_
  rw [rounds_succ]
  go_wp2_with fail
  rw [rounds_succ]
  go_wp2_with fail
  rw [rounds_succ]
  go_wp2_with fail
  rw [rounds_succ]
  go_wp2_with fail
  refine (of_yes (a + x) (b + y) (c + z) _ HS.out).mono ?_
  rintro e w5 ⟨rfl, hb5⟩
  replace HB : Hid (Below w.heap.size w w5) := below_step (by repeat (first | (with_reducible first | exact HB.out | exact Below.refl _ _ | apply below_alloc | apply bdr | apply below_drew1) | (refine below_set ?_ (by first | omega | (simp; done) | (simp; omega))) | exact HB.out | exact Below.refl _ _)) hb5
  have KR5 := Lib.hid (blk_below (far3 KR.out (Nat.ne_of_lt hlt) _ _ _) hb5)
  clear hb5
  have hlt5 := blk_lt KR5.out
  have gR_0 := blk_cell KR5.out 0
  have hR_0 := blk_frozen KR5.out 0
  have gR_1 := blk_cell KR5.out 1
  have hR_1 := blk_frozen KR5.out 1
  have gR_2 := blk_cell KR5.out 2
  have hR_2 := blk_frozen KR5.out 2
  go_wp2_with fail
  refine bodyPost_ret (v := .tuple #[.agg #[.int .i64 (a + x), .int .i64 (b + y), .int .i64 (c + z)], .int .i64 0]) (resM rfl rfl (blk_alloc (put3 KR5.out _ _ _) _)) rfl ⟨rfl, (by repeat (first | (with_reducible first | exact HB.out | exact Below.refl _ _ | apply below_alloc | apply bdr | apply below_drew1) | (refine below_set ?_ (by first | omega | (simp; done) | (simp; omega))) | exact HB.out | exact Below.refl _ _))⟩

set_option maxRecDepth 100000 in
set_option maxHeartbeats 2000000 in
theorem mul_range (a b c x y z : Int) (w : World) (h : okU a b c) (hx : okU x y z) (hs : ¬ okU (a + x) (b + y) (c + z)) :
    Calls Tryd.prog 14 #[.agg #[.int .i64 a, .int .i64 b, .int .i64 c], .agg #[.int .i64 x, .int .i64 y, .int .i64 z]] w fun e w' => e = .returned (.tuple #[.agg #[.int .i64 0, .int .i64 0, .int .i64 0], .int .i64 9]) ∧ Below w.heap.size w w' := by
  have H := Lib.hid h
  have HX := Lib.hid hx
  have HS := Lib.hid hs
  obtain ⟨⟨a1, a2⟩, ⟨b1, b2⟩, ⟨c1, c2⟩⟩ := h
  obtain ⟨⟨x1, x2⟩, ⟨y1, y2⟩, ⟨z1, z2⟩⟩ := hx
  clear hs
  have h3 := alloc3_blk w (.cells #[.int .i64 a, .int .i64 b, .int .i64 c] 34) (.cells #[.int .i64 x, .int .i64 y, .int .i64 z] 34) (.cells #[.int .i64 0, .int .i64 0, .int .i64 0] 34)
  have i0 := idx0 (.int .i64 x) (.int .i64 y) (.int .i64 z)
  have i1 := idx1 (.int .i64 x) (.int .i64 y) (.int .i64 z)
  have i2 := idx2 (.int .i64 x) (.int .i64 y) (.int .i64 z)
  go_enter Tryd.func14, Tryd.ntmps14
  go_wp2_with fail
  refine (valid_yes a b c _ H.out).mono ?_
  rintro e w1 ⟨rfl, hb1⟩
  have KA : Hid (w1.heap[w.heap.size]? = some (.cells #[.int .i64 a, .int .i64 b, .int .i64 c] 34 (0, 0))) := blk_below h3.1 hb1
  have KR : Hid (w1.heap[w.heap.size + 1 + 1]? = some (.cells #[.int .i64 0, .int .i64 0, .int .i64 0] 34 (0, 0))) := blk_below h3.2.2 hb1
  have KX : Hid (w1.heap[w.heap.size + 1]? = some (.cells #[.int .i64 x, .int .i64 y, .int .i64 z] 34 (0, 0))) := blk_below h3.2.1 hb1
  have cA_0 := blk_cell KA.out 0
  have fA_0 := blk_frozen KA.out 0
  have cA_1 := blk_cell KA.out 1
  have fA_1 := blk_frozen KA.out 1
  have cA_2 := blk_cell KA.out 2
  have fA_2 := blk_frozen KA.out 2
  have cR_0 := blk_cell KR.out 0
  have fR_0 := blk_frozen KR.out 0
  have cR_1 := blk_cell KR.out 1
  have fR_1 := blk_frozen KR.out 1
  have cR_2 := blk_cell KR.out 2
  have fR_2 := blk_frozen KR.out 2
  have cX_0 := blk_cell KX.out 0
  have fX_0 := blk_frozen KX.out 0
  have cX_1 := blk_cell KX.out 1
  have fX_1 := blk_frozen KX.out 1
  have cX_2 := blk_cell KX.out 2
  have fX_2 := blk_frozen KX.out 2
  have HB : Hid (Below w.heap.size w w1) := below_step (by repeat (first | (with_reducible first | exact HB.out | exact Below.refl _ _ | apply below_alloc | apply bdr | apply below_drew1) | (refine below_set ?_ (by first | omega | (simp; done) | (simp; omega))) | exact HB.out | exact Below.refl _ _)) hb1
  clear hb1
  go_wp2_with fail
  refine (valid_yes x y z _ HX.out).mono ?_
  rintro e w2 ⟨rfl, hb2⟩
  clear cA_0 fA_0 cA_1 fA_1 cA_2 fA_2
  replace KA : Hid (w2.heap[w.heap.size]? = some (.cells #[.int .i64 a, .int .i64 b, .int .i64 c] 34 (0, 0))) := blk_below (by repeat (first | (with_reducible first | exact KA.out | apply blk_drewN | apply blk_drew | apply blk_alloc) | exact KA.out)) hb2
  have cA_0 := blk_cell KA.out 0
  have fA_0 := blk_frozen KA.out 0
  have cA_1 := blk_cell KA.out 1
  have fA_1 := blk_frozen KA.out 1
  have cA_2 := blk_cell KA.out 2
  have fA_2 := blk_frozen KA.out 2
  clear cR_0 fR_0 cR_1 fR_1 cR_2 fR_2
  replace KR : Hid (w2.heap[w.heap.size + 1 + 1]? = some (.cells #[.int .i64 0, .int .i64 0, .int .i64 0] 34 (0, 0))) := blk_below (by repeat (first | (with_reducible first | exact KR.out | apply blk_drewN | apply blk_drew | apply blk_alloc) | exact KR.out)) hb2
  have cR_0 := blk_cell KR.out 0
  have fR_0 := blk_frozen KR.out 0
  have cR_1 := blk_cell KR.out 1
  have fR_1 := blk_frozen KR.out 1
  have cR_2 := blk_cell KR.out 2
  have fR_2 := blk_frozen KR.out 2
  clear cX_0 fX_0 cX_1 fX_1 cX_2 fX_2
  replace KX : Hid (w2.heap[w.heap.size + 1]? = some (.cells #[.int .i64 x, .int .i64 y, .int .i64 z] 34 (0, 0))) := blk_below (by repeat (first | (with_reducible first | exact KX.out | apply blk_drewN | apply blk_drew | apply blk_alloc) | exact KX.out)) hb2
  have cX_0 := blk_cell KX.out 0
  have fX_0 := blk_frozen KX.out 0
  have cX_1 := blk_cell KX.out 1
  have fX_1 := blk_frozen KX.out 1
  have cX_2 := blk_cell KX.out 2
  have fX_2 := blk_frozen KX.out 2
  replace HB : Hid (Below w.heap.size w w2) := below_step (by repeat (first | (with_reducible first | exact HB.out | exact Below.refl _ _ | apply below_alloc | apply bdr | apply below_drew1) | (refine below_set ?_ (by first | omega | (simp; done) | (simp; omega))) | exact HB.out | exact Below.refl _ _)) hb2
  clear hb2
  go_wp2_with fail
  refine (exponents_any a b c _).mono ?_
  rintro e w3 ⟨rfl, hb3⟩
  clear cR_0 fR_0 cR_1 fR_1 cR_2 fR_2
  replace KR : Hid (w3.heap[w.heap.size + 1 + 1]? = some (.cells #[.int .i64 0, .int .i64 0, .int .i64 0] 34 (0, 0))) := blk_below (by repeat (first | (with_reducible first | exact KR.out | apply blk_drewN | apply blk_drew | apply blk_alloc) | exact KR.out)) hb3
  have cR_0 := blk_cell KR.out 0
  have fR_0 := blk_frozen KR.out 0
  have cR_1 := blk_cell KR.out 1
  have fR_1 := blk_frozen KR.out 1
  have cR_2 := blk_cell KR.out 2
  have fR_2 := blk_frozen KR.out 2
  clear cX_0 fX_0 cX_1 fX_1 cX_2 fX_2
  replace KX : Hid (w3.heap[w.heap.size + 1]? = some (.cells #[.int .i64 x, .int .i64 y, .int .i64 z] 34 (0, 0))) := blk_below (by repeat (first | (with_reducible first | exact KX.out | apply blk_drewN | apply blk_drew | apply blk_alloc) | exact KX.out)) hb3
  have cX_0 := blk_cell KX.out 0
  have fX_0 := blk_frozen KX.out 0
  have cX_1 := blk_cell KX.out 1
  have fX_1 := blk_frozen KX.out 1
  have cX_2 := blk_cell KX.out 2
  have fX_2 := blk_frozen KX.out 2
  replace HB : Hid (Below w.heap.size w w3) := below_step (by repeat (first | (with_reducible first | exact HB.out | exact Below.refl _ _ | apply below_alloc | apply bdr | apply below_drew1) | (refine below_set ?_ (by first | omega | (simp; done) | (simp; omega))) | exact HB.out | exact Below.refl _ _)) hb3
  clear hb3
  clear cA_0 cA_1 cA_2 fA_0 fA_1 fA_2 KA
  have hlt := blk_lt KR.out
  have gX_0 := fun o => blk_cell (blk_alloc KX.out o) 0
  have hX_0 := fun o => blk_frozen (blk_alloc KX.out o) 0
  have gX_1 := fun o => blk_cell (blk_alloc KX.out o) 1
  have hX_1 := fun o => blk_frozen (blk_alloc KX.out o) 1
  have gX_2 := fun o => blk_cell (blk_alloc KX.out o) 2
  have hX_2 := fun o => blk_frozen (blk_alloc KX.out o) 2
  go_wp2_with fail
  refine (exponents_any x y z _).mono ?_
  rintro e w4 ⟨rfl, hb4⟩
  have KN : Hid (w4.heap[w3.heap.size]? = some (.cells #[.int .i64 a, .int .i64 b, .int .i64 c] 74 (0, 0))) := blk_below (blk_new w3 _) hb4
  clear cR_0 fR_0 cR_1 fR_1 cR_2 fR_2
  replace KR : Hid (w4.heap[w.heap.size + 1 + 1]? = some (.cells #[.int .i64 0, .int .i64 0, .int .i64 0] 34 (0, 0))) := blk_below (by repeat (first | (with_reducible first | exact KR.out | apply blk_drewN | apply blk_drew | apply blk_alloc) | exact KR.out)) hb4
  have cR_0 := blk_cell KR.out 0
  have fR_0 := blk_frozen KR.out 0
  have cR_1 := blk_cell KR.out 1
  have fR_1 := blk_frozen KR.out 1
  have cR_2 := blk_cell KR.out 2
  have fR_2 := blk_frozen KR.out 2
  replace HB : Hid (Below w.heap.size w w4) := below_step (by repeat (first | (with_reducible first | exact HB.out | exact Below.refl _ _ | apply below_alloc | apply bdr | apply below_drew1) | (refine below_set ?_ (by first | omega | (simp; done) | (simp; omega))) | exact HB.out | exact Below.refl _ _)) hb4
  clear hb4
  clear cX_0 cX_1 cX_2 fX_0 fX_1 fX_2 gX_0 gX_1 gX_2 hX_0 hX_1 hX_2 KX
  go_wp2_with fail
  have cN_0 := blk_cell KN.out 0
  have fN_0 := blk_frozen KN.out 0
  have cN_1 := blk_cell KN.out 1
  have fN_1 := blk_frozen KN.out 1
  have cN_2 := blk_cell KN.out 2
  have fN_2 := blk_frozen KN.out 2
  refine wp_loop_rounds 4 ?_
  rw [rounds_succ]
  go_wp2_with fail
  rw [rounds_succ]
  go_wp2_with fail
  rw [rounds_succ]
  go_wp2_with fail
  rw [rounds_succ]
  go_wp2_with fail
  refine (of_no (a + x) (b + y) (c + z) _ HS.out).mono ?_
  rintro e w5 ⟨rfl, hb5⟩
  replace HB : Hid (Below w.heap.size w w5) := below_step (by repeat (first | (with_reducible first | exact HB.out | exact Below.refl _ _ | apply below_alloc | apply bdr | apply below_drew1) | (refine below_set ?_ (by first | omega | (simp; done) | (simp; omega))) | exact HB.out | exact Below.refl _ _)) hb5
  have KR5 := Lib.hid (blk_below (far3 KR.out (Nat.ne_of_lt hlt) _ _ _) hb5)
  clear hb5
  have hlt5 := blk_lt KR5.out
  have gR_0 := blk_cell KR5.out 0
  have hR_0 := blk_frozen KR5.out 0
  have gR_1 := blk_cell KR5.out 1
  have hR_1 := blk_frozen KR5.out 1
  have gR_2 := blk_cell KR5.out 2
  have hR_2 := blk_frozen KR5.out 2
  go_wp2_with fail
  refine bodyPost_ret (v := .tuple #[.agg #[.int .i64 0, .int .i64 0, .int .i64 0], .int .i64 9]) (resM rfl rfl (blk_alloc (put3 KR5.out _ _ _) _)) rfl ⟨rfl, (by repeat (first | (with_reducible first | exact HB.out | exact Below.refl _ _ | apply below_alloc | apply bdr | apply below_drew1) | (refine below_set ?_ (by first | omega | (simp; done) | (simp; omega))) | exact HB.out | exact Below.refl _ _))⟩

end Go.Proofs.YtamabdijeklgjaaDoor.Ext

/- unit.Mul in one contract. -/
namespace Go.Proofs.YtamabdijeklgjaaDoor.Ext
open Go Go.Proofs Go.RowKit Go.Proofs.YtamabdijeklgjaaDoorW.PrintWords
set_option linter.unusedVariables false

abbrev US := L.S34
def usV (u : US) : Value := .agg #[.int .i64 u.f0, .int .i64 u.f1, .int .i64 u.f2]
def okUS (u : US) : Prop := okU u.f0 u.f1 u.f2
instance (u : US) : Decidable (okUS u) := by unfold okUS okU okE; infer_instance
def us0 : US := ⟨0, 0, 0⟩
def mulE (u v : US) : US × Int := if okUS u ∧ okUS v then (if okU (u.f0 + v.f0) (u.f1 + v.f1) (u.f2 + v.f2) then (⟨u.f0 + v.f0, u.f1 + v.f1, u.f2 + v.f2⟩, 0) else (us0, 9)) else (us0, 1)
theorem mul_calls (u v : US) (w : World) : Calls Tryd.prog 14 #[usV u, usV v] w fun e w' => e = .returned (.tuple #[usV (mulE u v).1, .int .i64 (mulE u v).2]) ∧ Below w.heap.size w w' := by
  obtain ⟨a, b, c⟩ := u
  obtain ⟨x, y, z⟩ := v
  unfold mulE okUS usV
  by_cases h1 : okU a b c
  · by_cases h2 : okU x y z
    · rw [if_pos ⟨h1, h2⟩]
      by_cases h3 : okU (a + x) (b + y) (c + z)
      · rw [if_pos h3]
        exact mul_yes a b c x y z w h1 h2 h3
      · rw [if_neg h3]
        exact mul_range a b c x y z w h1 h2 h3
    · rw [if_neg (fun h => h2 h.2)]
      exact mul_no_x a b c x y z w h1 h2
  · rw [if_neg (fun h => h1 h.1)]
    exact mul_no_a a b c x y z w h1
end Go.Proofs.YtamabdijeklgjaaDoor.Ext
