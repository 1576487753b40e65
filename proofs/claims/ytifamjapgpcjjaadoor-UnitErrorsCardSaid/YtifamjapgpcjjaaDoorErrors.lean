/- UnitErrors: walked along its ways; each ends in true. -/
import Derived.Test.YtifamjapgpcjjaaDoorPlain
namespace Go.Proofs.YtifamjapgpcjjaaDoor.Ext
open Go Go.Proofs Go.RowKit Go.Proofs.YtifamjapgpcjjaaDoorW.PrintWords Go.Proofs.YtifamjapgpcjjaaDoor.H
set_option linter.unusedVariables false
set_option linter.unusedSimpArgs false

theorem mx3 (a b c : Int) : mx (mx a b) c ≤ 8 ↔ a ≤ 8 ∧ b ≤ 8 ∧ c ≤ 8 := by
  unfold mx; split <;> split <;> omega
theorem mn3 (a b c : Int) : mn (mn a b) c ≥ -8 ↔ -8 ≤ a ∧ -8 ≤ b ∧ -8 ≤ c := by
  unfold mn; split <;> split <;> omega
theorem within_yes (a b c : Int) (h : okU a b c) : observatorylaw32_within.f a b c = some true := by
  obtain ⟨⟨a1, a2⟩, ⟨b1, b2⟩, ⟨c1, c2⟩⟩ := h
  unfold observatorylaw32_within.f
  rw [if_pos ((mx3 a b c).2 ⟨a2, b2, c2⟩), decide_eq_true ((mn3 a b c).2 ⟨a1, b1, c1⟩)]
theorem within_no (a b c : Int) (h : ¬ okU a b c) : observatorylaw32_within.f a b c = some false := by
  unfold okU okE at h
  unfold observatorylaw32_within.f
  by_cases hm : mx (mx a b) c ≤ 8
  · have := (mx3 a b c).1 hm
    rw [if_pos hm, decide_eq_false (fun e => by have := (mn3 a b c).1 e; omega)]
  · rw [if_neg hm]
theorem mulF_ok (a b c x y z : Int) (h1 : okU a b c) (h2 : okU x y z) (h3 : okU (a + x) (b + y) (c + z)) : unit_Mul.f a b c x y z = some (a + x, b + y, c + z, 0) := by
  unfold unit_Mul.f mulR
  rw [if_pos ⟨h1, h2⟩, if_pos h3]
theorem mulF_range (a b c x y z : Int) (h1 : okU a b c) (h2 : okU x y z) (h3 : ¬ okU (a + x) (b + y) (c + z)) : unit_Mul.f a b c x y z = some (0, 0, 0, 9) := by
  unfold unit_Mul.f mulR
  rw [if_pos ⟨h1, h2⟩, if_neg h3]
theorem two_ok (a b c : Int) (h1 : okU a b c) (h2 : okU (2 * a) (2 * b) (2 * c)) : unit_Power.f a b c 2 = some (2 * a, 2 * b, 2 * c, 0) := by
  unfold unit_Power.f
  rw [power_small a b c 2 h1 (by omega), Int.mul_comm a, Int.mul_comm b, Int.mul_comm c, if_pos h2]
theorem two_range (a b c : Int) (h1 : okU a b c) (h2 : ¬ okU (2 * a) (2 * b) (2 * c)) : unit_Power.f a b c 2 = some (0, 0, 0, 9) := by
  unfold unit_Power.f
  rw [power_small a b c 2 h1 (by omega), Int.mul_comm a, Int.mul_comm b, Int.mul_comm c, if_neg h2]

set_option maxRecDepth 100000 in
set_option maxHeartbeats 4000000 in
theorem errors_a (a b c x y z : Int) (w : World) (hT : Tabs w) (h : ¬ okU a b c) :
    Calls Tryd.prog 7 #[.agg #[.int .i64 a, .int .i64 b, .int .i64 c], .agg #[.int .i64 x, .int .i64 y, .int .i64 z]] w fun e w' => e = .returned (.bool true) ∧ Below w.heap.size w w' := by
  have HT := Lib.hid hT
  clear hT
  have H := Lib.hid h
  clear h
  have h2 := alloc2_blk w (.cells #[.int .i64 a, .int .i64 b, .int .i64 c] 23) (.cells #[.int .i64 x, .int .i64 y, .int .i64 z] 23)
  go_enter Tryd.func7, Tryd.ntmps7
  go_wp2_with fail
  refine (head.calls true _ ((HT.out.alloc _).alloc _) rfl).mono ?_
  rintro e w1 ⟨rfl, hb1⟩
  have KA : Hid (w1.heap[w.heap.size]? = some (.cells #[.int .i64 a, .int .i64 b, .int .i64 c] 23 (0, 0))) := blk_below h2.1 hb1
  have KB : Hid (w1.heap[w.heap.size + 1]? = some (.cells #[.int .i64 x, .int .i64 y, .int .i64 z] 23 (0, 0))) := blk_below h2.2 hb1
  have cA_0 := blk_cell KA.out 0
  have fA_0 := blk_frozen KA.out 0
  have cA_1 := blk_cell KA.out 1
  have fA_1 := blk_frozen KA.out 1
  have cA_2 := blk_cell KA.out 2
  have fA_2 := blk_frozen KA.out 2
  have cB_0 := blk_cell KB.out 0
  have fB_0 := blk_frozen KB.out 0
  have cB_1 := blk_cell KB.out 1
  have fB_1 := blk_frozen KB.out 1
  have cB_2 := blk_cell KB.out 2
  have fB_2 := blk_frozen KB.out 2
  have HB : Hid (Below w.heap.size w w1) := below_step (by repeat (first | (with_reducible first | exact HB.out | exact Below.refl _ _ | apply below_alloc | apply bdr | apply below_drew1) | (refine below_set ?_ (by first | omega | (simp; done) | (simp; omega))) | exact HB.out | exact Below.refl _ _)) hb1
  clear hb1
  clear h2
  have hlA := blk_lt KA.out
  have hlB := blk_lt KB.out
  go_wp2_with fail
  refine (observatorylaw32_within.calls _ _ _ _ _ (within_no a b c H.out)).mono ?_
  rintro e w2 ⟨rfl, hb2⟩
  clear cA_0 fA_0 cA_1 fA_1 cA_2 fA_2
  replace KA : Hid (w2.heap[w.heap.size]? = some (.cells #[.int .i64 a, .int .i64 b, .int .i64 c] 23 (0, 0))) := blk_below (by repeat (first | (with_reducible first | exact KA.out | apply blk_drewN | apply blk_drew | apply blk_alloc) | exact KA.out)) hb2
  have cA_0 := blk_cell KA.out 0
  have fA_0 := blk_frozen KA.out 0
  have cA_1 := blk_cell KA.out 1
  have fA_1 := blk_frozen KA.out 1
  have cA_2 := blk_cell KA.out 2
  have fA_2 := blk_frozen KA.out 2
  clear cB_0 fB_0 cB_1 fB_1 cB_2 fB_2
  replace KB : Hid (w2.heap[w.heap.size + 1]? = some (.cells #[.int .i64 x, .int .i64 y, .int .i64 z] 23 (0, 0))) := blk_below (by repeat (first | (with_reducible first | exact KB.out | apply blk_drewN | apply blk_drew | apply blk_alloc) | exact KB.out)) hb2
  have cB_0 := blk_cell KB.out 0
  have fB_0 := blk_frozen KB.out 0
  have cB_1 := blk_cell KB.out 1
  have fB_1 := blk_frozen KB.out 1
  have cB_2 := blk_cell KB.out 2
  have fB_2 := blk_frozen KB.out 2
  replace HB : Hid (Below w.heap.size w w2) := below_step (by repeat (first | (with_reducible first | exact HB.out | exact Below.refl _ _ | apply below_alloc | apply bdr | apply below_drew1) | (refine below_set ?_ (by first | omega | (simp; done) | (simp; omega))) | exact HB.out | exact Below.refl _ _)) hb2
  clear hb2
  replace hlA := blk_lt KA.out
  replace hlB := blk_lt KB.out
  go_wp2_with fail
  go_ret
  exact ⟨rfl, HB.out⟩

set_option maxRecDepth 100000 in
set_option maxHeartbeats 4000000 in
theorem errors_b (a b c x y z : Int) (w : World) (hT : Tabs w) (h : okU a b c) (g : ¬ okU x y z) :
    Calls Tryd.prog 7 #[.agg #[.int .i64 a, .int .i64 b, .int .i64 c], .agg #[.int .i64 x, .int .i64 y, .int .i64 z]] w fun e w' => e = .returned (.bool true) ∧ Below w.heap.size w w' := by
  have HT := Lib.hid hT
  clear hT
  have H := Lib.hid h
  clear h
  have G := Lib.hid g
  clear g
  have h2 := alloc2_blk w (.cells #[.int .i64 a, .int .i64 b, .int .i64 c] 23) (.cells #[.int .i64 x, .int .i64 y, .int .i64 z] 23)
  go_enter Tryd.func7, Tryd.ntmps7
  go_wp2_with fail
  refine (head.calls true _ ((HT.out.alloc _).alloc _) rfl).mono ?_
  rintro e w1 ⟨rfl, hb1⟩
  have KA : Hid (w1.heap[w.heap.size]? = some (.cells #[.int .i64 a, .int .i64 b, .int .i64 c] 23 (0, 0))) := blk_below h2.1 hb1
  have KB : Hid (w1.heap[w.heap.size + 1]? = some (.cells #[.int .i64 x, .int .i64 y, .int .i64 z] 23 (0, 0))) := blk_below h2.2 hb1
  have cA_0 := blk_cell KA.out 0
  have fA_0 := blk_frozen KA.out 0
  have cA_1 := blk_cell KA.out 1
  have fA_1 := blk_frozen KA.out 1
  have cA_2 := blk_cell KA.out 2
  have fA_2 := blk_frozen KA.out 2
  have cB_0 := blk_cell KB.out 0
  have fB_0 := blk_frozen KB.out 0
  have cB_1 := blk_cell KB.out 1
  have fB_1 := blk_frozen KB.out 1
  have cB_2 := blk_cell KB.out 2
  have fB_2 := blk_frozen KB.out 2
  have HB : Hid (Below w.heap.size w w1) := below_step (by repeat (first | (with_reducible first | exact HB.out | exact Below.refl _ _ | apply below_alloc | apply bdr | apply below_drew1) | (refine below_set ?_ (by first | omega | (simp; done) | (simp; omega))) | exact HB.out | exact Below.refl _ _)) hb1
  clear hb1
  clear h2
  have hlA := blk_lt KA.out
  have hlB := blk_lt KB.out
  go_wp2_with fail
  refine (observatorylaw32_within.calls _ _ _ _ _ (within_yes a b c H.out)).mono ?_
  rintro e w2 ⟨rfl, hb2⟩
  clear cA_0 fA_0 cA_1 fA_1 cA_2 fA_2
  replace KA : Hid (w2.heap[w.heap.size]? = some (.cells #[.int .i64 a, .int .i64 b, .int .i64 c] 23 (0, 0))) := blk_below (by repeat (first | (with_reducible first | exact KA.out | apply blk_drewN | apply blk_drew | apply blk_alloc) | exact KA.out)) hb2
  have cA_0 := blk_cell KA.out 0
  have fA_0 := blk_frozen KA.out 0
  have cA_1 := blk_cell KA.out 1
  have fA_1 := blk_frozen KA.out 1
  have cA_2 := blk_cell KA.out 2
  have fA_2 := blk_frozen KA.out 2
  clear cB_0 fB_0 cB_1 fB_1 cB_2 fB_2
  replace KB : Hid (w2.heap[w.heap.size + 1]? = some (.cells #[.int .i64 x, .int .i64 y, .int .i64 z] 23 (0, 0))) := blk_below (by repeat (first | (with_reducible first | exact KB.out | apply blk_drewN | apply blk_drew | apply blk_alloc) | exact KB.out)) hb2
  have cB_0 := blk_cell KB.out 0
  have fB_0 := blk_frozen KB.out 0
  have cB_1 := blk_cell KB.out 1
  have fB_1 := blk_frozen KB.out 1
  have cB_2 := blk_cell KB.out 2
  have fB_2 := blk_frozen KB.out 2
  replace HB : Hid (Below w.heap.size w w2) := below_step (by repeat (first | (with_reducible first | exact HB.out | exact Below.refl _ _ | apply below_alloc | apply bdr | apply below_drew1) | (refine below_set ?_ (by first | omega | (simp; done) | (simp; omega))) | exact HB.out | exact Below.refl _ _)) hb2
  clear hb2
  replace hlA := blk_lt KA.out
  replace hlB := blk_lt KB.out
  go_wp2_with fail
  refine (observatorylaw32_within.calls _ _ _ _ _ (within_no x y z G.out)).mono ?_
  rintro e w3 ⟨rfl, hb3⟩
  clear cA_0 fA_0 cA_1 fA_1 cA_2 fA_2
  replace KA : Hid (w3.heap[w.heap.size]? = some (.cells #[.int .i64 a, .int .i64 b, .int .i64 c] 23 (0, 0))) := blk_below (by repeat (first | (with_reducible first | exact KA.out | apply blk_drewN | apply blk_drew | apply blk_alloc) | exact KA.out)) hb3
  have cA_0 := blk_cell KA.out 0
  have fA_0 := blk_frozen KA.out 0
  have cA_1 := blk_cell KA.out 1
  have fA_1 := blk_frozen KA.out 1
  have cA_2 := blk_cell KA.out 2
  have fA_2 := blk_frozen KA.out 2
  clear cB_0 fB_0 cB_1 fB_1 cB_2 fB_2
  replace KB : Hid (w3.heap[w.heap.size + 1]? = some (.cells #[.int .i64 x, .int .i64 y, .int .i64 z] 23 (0, 0))) := blk_below (by repeat (first | (with_reducible first | exact KB.out | apply blk_drewN | apply blk_drew | apply blk_alloc) | exact KB.out)) hb3
  have cB_0 := blk_cell KB.out 0
  have fB_0 := blk_frozen KB.out 0
  have cB_1 := blk_cell KB.out 1
  have fB_1 := blk_frozen KB.out 1
  have cB_2 := blk_cell KB.out 2
  have fB_2 := blk_frozen KB.out 2
  replace HB : Hid (Below w.heap.size w w3) := below_step (by repeat (first | (with_reducible first | exact HB.out | exact Below.refl _ _ | apply below_alloc | apply bdr | apply below_drew1) | (refine below_set ?_ (by first | omega | (simp; done) | (simp; omega))) | exact HB.out | exact Below.refl _ _)) hb3
  clear hb3
  replace hlA := blk_lt KA.out
  replace hlB := blk_lt KB.out
  go_wp2_with fail
  go_ret
  exact ⟨rfl, HB.out⟩

set_option maxRecDepth 100000 in
set_option maxHeartbeats 4000000 in
theorem errors_sd (a b c x y z : Int) (w : World) (hT : Tabs w) (h : okU a b c) (g : okU x y z) (s : okU (a + x) (b + y) (c + z)) (d : okU (2 * a) (2 * b) (2 * c)) :
    Calls Tryd.prog 7 #[.agg #[.int .i64 a, .int .i64 b, .int .i64 c], .agg #[.int .i64 x, .int .i64 y, .int .i64 z]] w fun e w' => e = .returned (.bool true) ∧ Below w.heap.size w w' := by
  have HT := Lib.hid hT
  clear hT
  obtain ⟨⟨a1, a2⟩, ⟨b1, b2⟩, ⟨c1, c2⟩⟩ := id h
  obtain ⟨⟨x1, x2⟩, ⟨y1, y2⟩, ⟨z1, z2⟩⟩ := id g
  have H := Lib.hid h
  clear h
  have G := Lib.hid g
  clear g
  have S := Lib.hid s
  clear s
  have D := Lib.hid d
  clear d
  have h2 := alloc2_blk w (.cells #[.int .i64 a, .int .i64 b, .int .i64 c] 23) (.cells #[.int .i64 x, .int .i64 y, .int .i64 z] 23)
  go_enter Tryd.func7, Tryd.ntmps7
  go_wp2_with fail
  refine (head.calls true _ ((HT.out.alloc _).alloc _) rfl).mono ?_
  rintro e w1 ⟨rfl, hb1⟩
  have KA : Hid (w1.heap[w.heap.size]? = some (.cells #[.int .i64 a, .int .i64 b, .int .i64 c] 23 (0, 0))) := blk_below h2.1 hb1
  have KB : Hid (w1.heap[w.heap.size + 1]? = some (.cells #[.int .i64 x, .int .i64 y, .int .i64 z] 23 (0, 0))) := blk_below h2.2 hb1
  have cA_0 := blk_cell KA.out 0
  have fA_0 := blk_frozen KA.out 0
  have cA_1 := blk_cell KA.out 1
  have fA_1 := blk_frozen KA.out 1
  have cA_2 := blk_cell KA.out 2
  have fA_2 := blk_frozen KA.out 2
  have cB_0 := blk_cell KB.out 0
  have fB_0 := blk_frozen KB.out 0
  have cB_1 := blk_cell KB.out 1
  have fB_1 := blk_frozen KB.out 1
  have cB_2 := blk_cell KB.out 2
  have fB_2 := blk_frozen KB.out 2
  have HB : Hid (Below w.heap.size w w1) := below_step (by repeat (first | (with_reducible first | exact HB.out | exact Below.refl _ _ | apply below_alloc | apply bdr | apply below_drew1) | (refine below_set ?_ (by first | omega | (simp; done) | (simp; omega))) | exact HB.out | exact Below.refl _ _)) hb1
  clear hb1
  clear h2
  have hlA := blk_lt KA.out
  have hlB := blk_lt KB.out
  go_wp2_with fail
  refine (observatorylaw32_within.calls _ _ _ _ _ (within_yes a b c H.out)).mono ?_
  rintro e w2 ⟨rfl, hb2⟩
  clear cA_0 fA_0 cA_1 fA_1 cA_2 fA_2
  replace KA : Hid (w2.heap[w.heap.size]? = some (.cells #[.int .i64 a, .int .i64 b, .int .i64 c] 23 (0, 0))) := blk_below (by repeat (first | (with_reducible first | exact KA.out | apply blk_drewN | apply blk_drew | apply blk_alloc) | exact KA.out)) hb2
  have cA_0 := blk_cell KA.out 0
  have fA_0 := blk_frozen KA.out 0
  have cA_1 := blk_cell KA.out 1
  have fA_1 := blk_frozen KA.out 1
  have cA_2 := blk_cell KA.out 2
  have fA_2 := blk_frozen KA.out 2
  clear cB_0 fB_0 cB_1 fB_1 cB_2 fB_2
  replace KB : Hid (w2.heap[w.heap.size + 1]? = some (.cells #[.int .i64 x, .int .i64 y, .int .i64 z] 23 (0, 0))) := blk_below (by repeat (first | (with_reducible first | exact KB.out | apply blk_drewN | apply blk_drew | apply blk_alloc) | exact KB.out)) hb2
  have cB_0 := blk_cell KB.out 0
  have fB_0 := blk_frozen KB.out 0
  have cB_1 := blk_cell KB.out 1
  have fB_1 := blk_frozen KB.out 1
  have cB_2 := blk_cell KB.out 2
  have fB_2 := blk_frozen KB.out 2
  replace HB : Hid (Below w.heap.size w w2) := below_step (by repeat (first | (with_reducible first | exact HB.out | exact Below.refl _ _ | apply below_alloc | apply bdr | apply below_drew1) | (refine below_set ?_ (by first | omega | (simp; done) | (simp; omega))) | exact HB.out | exact Below.refl _ _)) hb2
  clear hb2
  replace hlA := blk_lt KA.out
  replace hlB := blk_lt KB.out
  go_wp2_with fail
  refine (observatorylaw32_within.calls _ _ _ _ _ (within_yes x y z G.out)).mono ?_
  rintro e w3 ⟨rfl, hb3⟩
  clear cA_0 fA_0 cA_1 fA_1 cA_2 fA_2
  replace KA : Hid (w3.heap[w.heap.size]? = some (.cells #[.int .i64 a, .int .i64 b, .int .i64 c] 23 (0, 0))) := blk_below (by repeat (first | (with_reducible first | exact KA.out | apply blk_drewN | apply blk_drew | apply blk_alloc) | exact KA.out)) hb3
  have cA_0 := blk_cell KA.out 0
  have fA_0 := blk_frozen KA.out 0
  have cA_1 := blk_cell KA.out 1
  have fA_1 := blk_frozen KA.out 1
  have cA_2 := blk_cell KA.out 2
  have fA_2 := blk_frozen KA.out 2
  clear cB_0 fB_0 cB_1 fB_1 cB_2 fB_2
  replace KB : Hid (w3.heap[w.heap.size + 1]? = some (.cells #[.int .i64 x, .int .i64 y, .int .i64 z] 23 (0, 0))) := blk_below (by repeat (first | (with_reducible first | exact KB.out | apply blk_drewN | apply blk_drew | apply blk_alloc) | exact KB.out)) hb3
  have cB_0 := blk_cell KB.out 0
  have fB_0 := blk_frozen KB.out 0
  have cB_1 := blk_cell KB.out 1
  have fB_1 := blk_frozen KB.out 1
  have cB_2 := blk_cell KB.out 2
  have fB_2 := blk_frozen KB.out 2
  replace HB : Hid (Below w.heap.size w w3) := below_step (by repeat (first | (with_reducible first | exact HB.out | exact Below.refl _ _ | apply below_alloc | apply bdr | apply below_drew1) | (refine below_set ?_ (by first | omega | (simp; done) | (simp; omega))) | exact HB.out | exact Below.refl _ _)) hb3
  clear hb3
  replace hlA := blk_lt KA.out
  replace hlB := blk_lt KB.out
  go_wp2_with fail
  refine (unit_Mul.calls _ _ _ _ _ _ _ _ _ _ _ (mulF_ok a b c x y z H.out G.out S.out)).mono ?_
  rintro e w4 ⟨rfl, hb4⟩
  clear cA_0 fA_0 cA_1 fA_1 cA_2 fA_2
  replace KA : Hid (w4.heap[w.heap.size]? = some (.cells #[.int .i64 a, .int .i64 b, .int .i64 c] 23 (0, 0))) := blk_below (by repeat (first | (with_reducible first | exact KA.out | apply blk_drewN | apply blk_drew | apply blk_alloc) | exact KA.out)) hb4
  have cA_0 := blk_cell KA.out 0
  have fA_0 := blk_frozen KA.out 0
  have cA_1 := blk_cell KA.out 1
  have fA_1 := blk_frozen KA.out 1
  have cA_2 := blk_cell KA.out 2
  have fA_2 := blk_frozen KA.out 2
  clear cB_0 fB_0 cB_1 fB_1 cB_2 fB_2
  replace KB : Hid (w4.heap[w.heap.size + 1]? = some (.cells #[.int .i64 x, .int .i64 y, .int .i64 z] 23 (0, 0))) := blk_below (by repeat (first | (with_reducible first | exact KB.out | apply blk_drewN | apply blk_drew | apply blk_alloc) | exact KB.out)) hb4
  have cB_0 := blk_cell KB.out 0
  have fB_0 := blk_frozen KB.out 0
  have cB_1 := blk_cell KB.out 1
  have fB_1 := blk_frozen KB.out 1
  have cB_2 := blk_cell KB.out 2
  have fB_2 := blk_frozen KB.out 2
  replace HB : Hid (Below w.heap.size w w4) := below_step (by repeat (first | (with_reducible first | exact HB.out | exact Below.refl _ _ | apply below_alloc | apply bdr | apply below_drew1) | (refine below_set ?_ (by first | omega | (simp; done) | (simp; omega))) | exact HB.out | exact Below.refl _ _)) hb4
  clear hb4
  replace hlA := blk_lt KA.out
  replace hlB := blk_lt KB.out
  go_wp2_with fail
  refine (observatorylaw32_within.calls _ _ _ _ _ (within_yes _ _ _ S.out)).mono ?_
  rintro e w5 ⟨rfl, hb5⟩
  have KC : Hid (w5.heap[w4.heap.size]? = some (.cells #[.int .i64 (a + x), .int .i64 (b + y), .int .i64 (c + z)] 23 (0, 0))) := blk_below (alloc2_blk w4 (.cells #[.int .i64 (a + x), .int .i64 (b + y), .int .i64 (c + z)] 23) (.cells #[.int .i64 (a + x), .int .i64 (b + y), .int .i64 (c + z)] 23)).1 hb5
  have KD : Hid (w5.heap[w4.heap.size + 1]? = some (.cells #[.int .i64 (a + x), .int .i64 (b + y), .int .i64 (c + z)] 23 (0, 0))) := blk_below (alloc2_blk w4 (.cells #[.int .i64 (a + x), .int .i64 (b + y), .int .i64 (c + z)] 23) (.cells #[.int .i64 (a + x), .int .i64 (b + y), .int .i64 (c + z)] 23)).2 hb5
  clear cA_0 fA_0 cA_1 fA_1 cA_2 fA_2
  replace KA : Hid (w5.heap[w.heap.size]? = some (.cells #[.int .i64 a, .int .i64 b, .int .i64 c] 23 (0, 0))) := blk_below (by repeat (first | (with_reducible first | exact KA.out | apply blk_drewN | apply blk_drew | apply blk_alloc) | exact KA.out)) hb5
  have cA_0 := blk_cell KA.out 0
  have fA_0 := blk_frozen KA.out 0
  have cA_1 := blk_cell KA.out 1
  have fA_1 := blk_frozen KA.out 1
  have cA_2 := blk_cell KA.out 2
  have fA_2 := blk_frozen KA.out 2
  clear cB_0 fB_0 cB_1 fB_1 cB_2 fB_2
  replace KB : Hid (w5.heap[w.heap.size + 1]? = some (.cells #[.int .i64 x, .int .i64 y, .int .i64 z] 23 (0, 0))) := blk_below (by repeat (first | (with_reducible first | exact KB.out | apply blk_drewN | apply blk_drew | apply blk_alloc) | exact KB.out)) hb5
  have cB_0 := blk_cell KB.out 0
  have fB_0 := blk_frozen KB.out 0
  have cB_1 := blk_cell KB.out 1
  have fB_1 := blk_frozen KB.out 1
  have cB_2 := blk_cell KB.out 2
  have fB_2 := blk_frozen KB.out 2
  have cC_0 := blk_cell KC.out 0
  have fC_0 := blk_frozen KC.out 0
  have cC_1 := blk_cell KC.out 1
  have fC_1 := blk_frozen KC.out 1
  have cC_2 := blk_cell KC.out 2
  have fC_2 := blk_frozen KC.out 2
  have cD_0 := blk_cell KD.out 0
  have fD_0 := blk_frozen KD.out 0
  have cD_1 := blk_cell KD.out 1
  have fD_1 := blk_frozen KD.out 1
  have cD_2 := blk_cell KD.out 2
  have fD_2 := blk_frozen KD.out 2
  replace HB : Hid (Below w.heap.size w w5) := below_step (by repeat (first | (with_reducible first | exact HB.out | exact Below.refl _ _ | apply below_alloc | apply bdr | apply below_drew1) | (refine below_set ?_ (by first | omega | (simp; done) | (simp; omega))) | exact HB.out | exact Below.refl _ _)) hb5
  clear hb5
  replace hlA := blk_lt KA.out
  replace hlB := blk_lt KB.out
  have hlC := blk_lt KC.out
  have hlD := blk_lt KD.out
  go_wp2_with fail
  clear cC_0 fC_0 cC_1 fC_1 cC_2 fC_2
  clear hlC KC
  clear cD_0 fD_0 cD_1 fD_1 cD_2 fD_2
  clear hlD KD
  clear cB_0 fB_0 cB_1 fB_1 cB_2 fB_2
  clear hlB KB
  refine (unit_Power.calls _ _ _ _ _ _ _ _ _ (two_ok a b c H.out D.out)).mono ?_
  rintro e w6 ⟨rfl, hb6⟩
  clear cA_0 fA_0 cA_1 fA_1 cA_2 fA_2
  replace KA : Hid (w6.heap[w.heap.size]? = some (.cells #[.int .i64 a, .int .i64 b, .int .i64 c] 23 (0, 0))) := blk_below (by repeat (first | (with_reducible first | exact KA.out | apply blk_drewN | apply blk_drew | apply blk_alloc) | exact KA.out)) hb6
  have cA_0 := blk_cell KA.out 0
  have fA_0 := blk_frozen KA.out 0
  have cA_1 := blk_cell KA.out 1
  have fA_1 := blk_frozen KA.out 1
  have cA_2 := blk_cell KA.out 2
  have fA_2 := blk_frozen KA.out 2
  replace HB : Hid (Below w.heap.size w w6) := below_step (by repeat (first | (with_reducible first | exact HB.out | exact Below.refl _ _ | apply below_alloc | apply bdr | apply below_drew1) | (refine below_set ?_ (by first | omega | (simp; done) | (simp; omega))) | exact HB.out | exact Below.refl _ _)) hb6
  clear hb6
  replace hlA := blk_lt KA.out
  go_wp2_with fail
  refine (observatorylaw32_within.calls _ _ _ _ _ (within_yes _ _ _ D.out)).mono ?_
  rintro e w7 ⟨rfl, hb7⟩
  clear cA_0 fA_0 cA_1 fA_1 cA_2 fA_2
  replace KA : Hid (w7.heap[w.heap.size]? = some (.cells #[.int .i64 a, .int .i64 b, .int .i64 c] 23 (0, 0))) := blk_below (by repeat (first | (with_reducible first | exact KA.out | apply blk_drewN | apply blk_drew | apply blk_alloc) | exact KA.out)) hb7
  have cA_0 := blk_cell KA.out 0
  have fA_0 := blk_frozen KA.out 0
  have cA_1 := blk_cell KA.out 1
  have fA_1 := blk_frozen KA.out 1
  have cA_2 := blk_cell KA.out 2
  have fA_2 := blk_frozen KA.out 2
  replace HB : Hid (Below w.heap.size w w7) := below_step (by repeat (first | (with_reducible first | exact HB.out | exact Below.refl _ _ | apply below_alloc | apply bdr | apply below_drew1) | (refine below_set ?_ (by first | omega | (simp; done) | (simp; omega))) | exact HB.out | exact Below.refl _ _)) hb7
  clear hb7
  replace hlA := blk_lt KA.out
  go_wp2_with fail
  go_ret
  exact ⟨rfl, HB.out⟩

set_option maxRecDepth 100000 in
set_option maxHeartbeats 4000000 in
theorem errors_sn (a b c x y z : Int) (w : World) (hT : Tabs w) (h : okU a b c) (g : okU x y z) (s : okU (a + x) (b + y) (c + z)) (d : ¬ okU (2 * a) (2 * b) (2 * c)) :
    Calls Tryd.prog 7 #[.agg #[.int .i64 a, .int .i64 b, .int .i64 c], .agg #[.int .i64 x, .int .i64 y, .int .i64 z]] w fun e w' => e = .returned (.bool true) ∧ Below w.heap.size w w' := by
  have HT := Lib.hid hT
  clear hT
  obtain ⟨⟨a1, a2⟩, ⟨b1, b2⟩, ⟨c1, c2⟩⟩ := id h
  obtain ⟨⟨x1, x2⟩, ⟨y1, y2⟩, ⟨z1, z2⟩⟩ := id g
  have H := Lib.hid h
  clear h
  have G := Lib.hid g
  clear g
  have S := Lib.hid s
  clear s
  have D := Lib.hid d
  clear d
  have h2 := alloc2_blk w (.cells #[.int .i64 a, .int .i64 b, .int .i64 c] 23) (.cells #[.int .i64 x, .int .i64 y, .int .i64 z] 23)
  go_enter Tryd.func7, Tryd.ntmps7
  go_wp2_with fail
  refine (head.calls true _ ((HT.out.alloc _).alloc _) rfl).mono ?_
  rintro e w1 ⟨rfl, hb1⟩
  have KA : Hid (w1.heap[w.heap.size]? = some (.cells #[.int .i64 a, .int .i64 b, .int .i64 c] 23 (0, 0))) := blk_below h2.1 hb1
  have KB : Hid (w1.heap[w.heap.size + 1]? = some (.cells #[.int .i64 x, .int .i64 y, .int .i64 z] 23 (0, 0))) := blk_below h2.2 hb1
  have cA_0 := blk_cell KA.out 0
  have fA_0 := blk_frozen KA.out 0
  have cA_1 := blk_cell KA.out 1
  have fA_1 := blk_frozen KA.out 1
  have cA_2 := blk_cell KA.out 2
  have fA_2 := blk_frozen KA.out 2
  have cB_0 := blk_cell KB.out 0
  have fB_0 := blk_frozen KB.out 0
  have cB_1 := blk_cell KB.out 1
  have fB_1 := blk_frozen KB.out 1
  have cB_2 := blk_cell KB.out 2
  have fB_2 := blk_frozen KB.out 2
  have HB : Hid (Below w.heap.size w w1) := below_step (by repeat (first | (with_reducible first | exact HB.out | exact Below.refl _ _ | apply below_alloc | apply bdr | apply below_drew1) | (refine below_set ?_ (by first | omega | (simp; done) | (simp; omega))) | exact HB.out | exact Below.refl _ _)) hb1
  clear hb1
  clear h2
  have hlA := blk_lt KA.out
  have hlB := blk_lt KB.out
  go_wp2_with fail
  refine (observatorylaw32_within.calls _ _ _ _ _ (within_yes a b c H.out)).mono ?_
  rintro e w2 ⟨rfl, hb2⟩
  clear cA_0 fA_0 cA_1 fA_1 cA_2 fA_2
  replace KA : Hid (w2.heap[w.heap.size]? = some (.cells #[.int .i64 a, .int .i64 b, .int .i64 c] 23 (0, 0))) := blk_below (by repeat (first | (with_reducible first | exact KA.out | apply blk_drewN | apply blk_drew | apply blk_alloc) | exact KA.out)) hb2
  have cA_0 := blk_cell KA.out 0
  have fA_0 := blk_frozen KA.out 0
  have cA_1 := blk_cell KA.out 1
  have fA_1 := blk_frozen KA.out 1
  have cA_2 := blk_cell KA.out 2
  have fA_2 := blk_frozen KA.out 2
  clear cB_0 fB_0 cB_1 fB_1 cB_2 fB_2
  replace KB : Hid (w2.heap[w.heap.size + 1]? = some (.cells #[.int .i64 x, .int .i64 y, .int .i64 z] 23 (0, 0))) := blk_below (by repeat (first | (with_reducible first | exact KB.out | apply blk_drewN | apply blk_drew | apply blk_alloc) | exact KB.out)) hb2
  have cB_0 := blk_cell KB.out 0
  have fB_0 := blk_frozen KB.out 0
  have cB_1 := blk_cell KB.out 1
  have fB_1 := blk_frozen KB.out 1
  have cB_2 := blk_cell KB.out 2
  have fB_2 := blk_frozen KB.out 2
  replace HB : Hid (Below w.heap.size w w2) := below_step (by repeat (first | (with_reducible first | exact HB.out | exact Below.refl _ _ | apply below_alloc | apply bdr | apply below_drew1) | (refine below_set ?_ (by first | omega | (simp; done) | (simp; omega))) | exact HB.out | exact Below.refl _ _)) hb2
  clear hb2
  replace hlA := blk_lt KA.out
  replace hlB := blk_lt KB.out
  go_wp2_with fail
  refine (observatorylaw32_within.calls _ _ _ _ _ (within_yes x y z G.out)).mono ?_
  rintro e w3 ⟨rfl, hb3⟩
  clear cA_0 fA_0 cA_1 fA_1 cA_2 fA_2
  replace KA : Hid (w3.heap[w.heap.size]? = some (.cells #[.int .i64 a, .int .i64 b, .int .i64 c] 23 (0, 0))) := blk_below (by repeat (first | (with_reducible first | exact KA.out | apply blk_drewN | apply blk_drew | apply blk_alloc) | exact KA.out)) hb3
  have cA_0 := blk_cell KA.out 0
  have fA_0 := blk_frozen KA.out 0
  have cA_1 := blk_cell KA.out 1
  have fA_1 := blk_frozen KA.out 1
  have cA_2 := blk_cell KA.out 2
  have fA_2 := blk_frozen KA.out 2
  clear cB_0 fB_0 cB_1 fB_1 cB_2 fB_2
  replace KB : Hid (w3.heap[w.heap.size + 1]? = some (.cells #[.int .i64 x, .int .i64 y, .int .i64 z] 23 (0, 0))) := blk_below (by repeat (first | (with_reducible first | exact KB.out | apply blk_drewN | apply blk_drew | apply blk_alloc) | exact KB.out)) hb3
  have cB_0 := blk_cell KB.out 0
  have fB_0 := blk_frozen KB.out 0
  have cB_1 := blk_cell KB.out 1
  have fB_1 := blk_frozen KB.out 1
  have cB_2 := blk_cell KB.out 2
  have fB_2 := blk_frozen KB.out 2
  replace HB : Hid (Below w.heap.size w w3) := below_step (by repeat (first | (with_reducible first | exact HB.out | exact Below.refl _ _ | apply below_alloc | apply bdr | apply below_drew1) | (refine below_set ?_ (by first | omega | (simp; done) | (simp; omega))) | exact HB.out | exact Below.refl _ _)) hb3
  clear hb3
  replace hlA := blk_lt KA.out
  replace hlB := blk_lt KB.out
  go_wp2_with fail
  refine (unit_Mul.calls _ _ _ _ _ _ _ _ _ _ _ (mulF_ok a b c x y z H.out G.out S.out)).mono ?_
  rintro e w4 ⟨rfl, hb4⟩
  clear cA_0 fA_0 cA_1 fA_1 cA_2 fA_2
  replace KA : Hid (w4.heap[w.heap.size]? = some (.cells #[.int .i64 a, .int .i64 b, .int .i64 c] 23 (0, 0))) := blk_below (by repeat (first | (with_reducible first | exact KA.out | apply blk_drewN | apply blk_drew | apply blk_alloc) | exact KA.out)) hb4
  have cA_0 := blk_cell KA.out 0
  have fA_0 := blk_frozen KA.out 0
  have cA_1 := blk_cell KA.out 1
  have fA_1 := blk_frozen KA.out 1
  have cA_2 := blk_cell KA.out 2
  have fA_2 := blk_frozen KA.out 2
  clear cB_0 fB_0 cB_1 fB_1 cB_2 fB_2
  replace KB : Hid (w4.heap[w.heap.size + 1]? = some (.cells #[.int .i64 x, .int .i64 y, .int .i64 z] 23 (0, 0))) := blk_below (by repeat (first | (with_reducible first | exact KB.out | apply blk_drewN | apply blk_drew | apply blk_alloc) | exact KB.out)) hb4
  have cB_0 := blk_cell KB.out 0
  have fB_0 := blk_frozen KB.out 0
  have cB_1 := blk_cell KB.out 1
  have fB_1 := blk_frozen KB.out 1
  have cB_2 := blk_cell KB.out 2
  have fB_2 := blk_frozen KB.out 2
  replace HB : Hid (Below w.heap.size w w4) := below_step (by repeat (first | (with_reducible first | exact HB.out | exact Below.refl _ _ | apply below_alloc | apply bdr | apply below_drew1) | (refine below_set ?_ (by first | omega | (simp; done) | (simp; omega))) | exact HB.out | exact Below.refl _ _)) hb4
  clear hb4
  replace hlA := blk_lt KA.out
  replace hlB := blk_lt KB.out
  go_wp2_with fail
  refine (observatorylaw32_within.calls _ _ _ _ _ (within_yes _ _ _ S.out)).mono ?_
  rintro e w5 ⟨rfl, hb5⟩
  have KC : Hid (w5.heap[w4.heap.size]? = some (.cells #[.int .i64 (a + x), .int .i64 (b + y), .int .i64 (c + z)] 23 (0, 0))) := blk_below (alloc2_blk w4 (.cells #[.int .i64 (a + x), .int .i64 (b + y), .int .i64 (c + z)] 23) (.cells #[.int .i64 (a + x), .int .i64 (b + y), .int .i64 (c + z)] 23)).1 hb5
  have KD : Hid (w5.heap[w4.heap.size + 1]? = some (.cells #[.int .i64 (a + x), .int .i64 (b + y), .int .i64 (c + z)] 23 (0, 0))) := blk_below (alloc2_blk w4 (.cells #[.int .i64 (a + x), .int .i64 (b + y), .int .i64 (c + z)] 23) (.cells #[.int .i64 (a + x), .int .i64 (b + y), .int .i64 (c + z)] 23)).2 hb5
  clear cA_0 fA_0 cA_1 fA_1 cA_2 fA_2
  replace KA : Hid (w5.heap[w.heap.size]? = some (.cells #[.int .i64 a, .int .i64 b, .int .i64 c] 23 (0, 0))) := blk_below (by repeat (first | (with_reducible first | exact KA.out | apply blk_drewN | apply blk_drew | apply blk_alloc) | exact KA.out)) hb5
  have cA_0 := blk_cell KA.out 0
  have fA_0 := blk_frozen KA.out 0
  have cA_1 := blk_cell KA.out 1
  have fA_1 := blk_frozen KA.out 1
  have cA_2 := blk_cell KA.out 2
  have fA_2 := blk_frozen KA.out 2
  clear cB_0 fB_0 cB_1 fB_1 cB_2 fB_2
  replace KB : Hid (w5.heap[w.heap.size + 1]? = some (.cells #[.int .i64 x, .int .i64 y, .int .i64 z] 23 (0, 0))) := blk_below (by repeat (first | (with_reducible first | exact KB.out | apply blk_drewN | apply blk_drew | apply blk_alloc) | exact KB.out)) hb5
  have cB_0 := blk_cell KB.out 0
  have fB_0 := blk_frozen KB.out 0
  have cB_1 := blk_cell KB.out 1
  have fB_1 := blk_frozen KB.out 1
  have cB_2 := blk_cell KB.out 2
  have fB_2 := blk_frozen KB.out 2
  have cC_0 := blk_cell KC.out 0
  have fC_0 := blk_frozen KC.out 0
  have cC_1 := blk_cell KC.out 1
  have fC_1 := blk_frozen KC.out 1
  have cC_2 := blk_cell KC.out 2
  have fC_2 := blk_frozen KC.out 2
  have cD_0 := blk_cell KD.out 0
  have fD_0 := blk_frozen KD.out 0
  have cD_1 := blk_cell KD.out 1
  have fD_1 := blk_frozen KD.out 1
  have cD_2 := blk_cell KD.out 2
  have fD_2 := blk_frozen KD.out 2
  replace HB : Hid (Below w.heap.size w w5) := below_step (by repeat (first | (with_reducible first | exact HB.out | exact Below.refl _ _ | apply below_alloc | apply bdr | apply below_drew1) | (refine below_set ?_ (by first | omega | (simp; done) | (simp; omega))) | exact HB.out | exact Below.refl _ _)) hb5
  clear hb5
  replace hlA := blk_lt KA.out
  replace hlB := blk_lt KB.out
  have hlC := blk_lt KC.out
  have hlD := blk_lt KD.out
  go_wp2_with fail
  clear cC_0 fC_0 cC_1 fC_1 cC_2 fC_2
  clear hlC KC
  clear cD_0 fD_0 cD_1 fD_1 cD_2 fD_2
  clear hlD KD
  clear cB_0 fB_0 cB_1 fB_1 cB_2 fB_2
  clear hlB KB
  refine (unit_Power.calls _ _ _ _ _ _ _ _ _ (two_range a b c H.out D.out)).mono ?_
  rintro e w6 ⟨rfl, hb6⟩
  clear cA_0 fA_0 cA_1 fA_1 cA_2 fA_2
  replace KA : Hid (w6.heap[w.heap.size]? = some (.cells #[.int .i64 a, .int .i64 b, .int .i64 c] 23 (0, 0))) := blk_below (by repeat (first | (with_reducible first | exact KA.out | apply blk_drewN | apply blk_drew | apply blk_alloc) | exact KA.out)) hb6
  have cA_0 := blk_cell KA.out 0
  have fA_0 := blk_frozen KA.out 0
  have cA_1 := blk_cell KA.out 1
  have fA_1 := blk_frozen KA.out 1
  have cA_2 := blk_cell KA.out 2
  have fA_2 := blk_frozen KA.out 2
  replace HB : Hid (Below w.heap.size w w6) := below_step (by repeat (first | (with_reducible first | exact HB.out | exact Below.refl _ _ | apply below_alloc | apply bdr | apply below_drew1) | (refine below_set ?_ (by first | omega | (simp; done) | (simp; omega))) | exact HB.out | exact Below.refl _ _)) hb6
  clear hb6
  replace hlA := blk_lt KA.out
  go_wp2_with fail
  refine (observatorylaw32_within.calls _ _ _ _ _ (within_no _ _ _ D.out)).mono ?_
  rintro e w7 ⟨rfl, hb7⟩
  clear cA_0 fA_0 cA_1 fA_1 cA_2 fA_2
  replace KA : Hid (w7.heap[w.heap.size]? = some (.cells #[.int .i64 a, .int .i64 b, .int .i64 c] 23 (0, 0))) := blk_below (by repeat (first | (with_reducible first | exact KA.out | apply blk_drewN | apply blk_drew | apply blk_alloc) | exact KA.out)) hb7
  have cA_0 := blk_cell KA.out 0
  have fA_0 := blk_frozen KA.out 0
  have cA_1 := blk_cell KA.out 1
  have fA_1 := blk_frozen KA.out 1
  have cA_2 := blk_cell KA.out 2
  have fA_2 := blk_frozen KA.out 2
  replace HB : Hid (Below w.heap.size w w7) := below_step (by repeat (first | (with_reducible first | exact HB.out | exact Below.refl _ _ | apply below_alloc | apply bdr | apply below_drew1) | (refine below_set ?_ (by first | omega | (simp; done) | (simp; omega))) | exact HB.out | exact Below.refl _ _)) hb7
  clear hb7
  replace hlA := blk_lt KA.out
  go_wp2_with fail
  go_ret
  exact ⟨rfl, HB.out⟩

set_option maxRecDepth 100000 in
set_option maxHeartbeats 4000000 in
theorem errors_nd (a b c x y z : Int) (w : World) (hT : Tabs w) (h : okU a b c) (g : okU x y z) (s : ¬ okU (a + x) (b + y) (c + z)) (d : okU (2 * a) (2 * b) (2 * c)) :
    Calls Tryd.prog 7 #[.agg #[.int .i64 a, .int .i64 b, .int .i64 c], .agg #[.int .i64 x, .int .i64 y, .int .i64 z]] w fun e w' => e = .returned (.bool true) ∧ Below w.heap.size w w' := by
  have HT := Lib.hid hT
  clear hT
  obtain ⟨⟨a1, a2⟩, ⟨b1, b2⟩, ⟨c1, c2⟩⟩ := id h
  obtain ⟨⟨x1, x2⟩, ⟨y1, y2⟩, ⟨z1, z2⟩⟩ := id g
  have H := Lib.hid h
  clear h
  have G := Lib.hid g
  clear g
  have S := Lib.hid s
  clear s
  have D := Lib.hid d
  clear d
  have h2 := alloc2_blk w (.cells #[.int .i64 a, .int .i64 b, .int .i64 c] 23) (.cells #[.int .i64 x, .int .i64 y, .int .i64 z] 23)
  go_enter Tryd.func7, Tryd.ntmps7
  go_wp2_with fail
  refine (head.calls true _ ((HT.out.alloc _).alloc _) rfl).mono ?_
  rintro e w1 ⟨rfl, hb1⟩
  have KA : Hid (w1.heap[w.heap.size]? = some (.cells #[.int .i64 a, .int .i64 b, .int .i64 c] 23 (0, 0))) := blk_below h2.1 hb1
  have KB : Hid (w1.heap[w.heap.size + 1]? = some (.cells #[.int .i64 x, .int .i64 y, .int .i64 z] 23 (0, 0))) := blk_below h2.2 hb1
  have cA_0 := blk_cell KA.out 0
  have fA_0 := blk_frozen KA.out 0
  have cA_1 := blk_cell KA.out 1
  have fA_1 := blk_frozen KA.out 1
  have cA_2 := blk_cell KA.out 2
  have fA_2 := blk_frozen KA.out 2
  have cB_0 := blk_cell KB.out 0
  have fB_0 := blk_frozen KB.out 0
  have cB_1 := blk_cell KB.out 1
  have fB_1 := blk_frozen KB.out 1
  have cB_2 := blk_cell KB.out 2
  have fB_2 := blk_frozen KB.out 2
  have HB : Hid (Below w.heap.size w w1) := below_step (by repeat (first | (with_reducible first | exact HB.out | exact Below.refl _ _ | apply below_alloc | apply bdr | apply below_drew1) | (refine below_set ?_ (by first | omega | (simp; done) | (simp; omega))) | exact HB.out | exact Below.refl _ _)) hb1
  clear hb1
  clear h2
  have hlA := blk_lt KA.out
  have hlB := blk_lt KB.out
  go_wp2_with fail
  refine (observatorylaw32_within.calls _ _ _ _ _ (within_yes a b c H.out)).mono ?_
  rintro e w2 ⟨rfl, hb2⟩
  clear cA_0 fA_0 cA_1 fA_1 cA_2 fA_2
  replace KA : Hid (w2.heap[w.heap.size]? = some (.cells #[.int .i64 a, .int .i64 b, .int .i64 c] 23 (0, 0))) := blk_below (by repeat (first | (with_reducible first | exact KA.out | apply blk_drewN | apply blk_drew | apply blk_alloc) | exact KA.out)) hb2
  have cA_0 := blk_cell KA.out 0
  have fA_0 := blk_frozen KA.out 0
  have cA_1 := blk_cell KA.out 1
  have fA_1 := blk_frozen KA.out 1
  have cA_2 := blk_cell KA.out 2
  have fA_2 := blk_frozen KA.out 2
  clear cB_0 fB_0 cB_1 fB_1 cB_2 fB_2
  replace KB : Hid (w2.heap[w.heap.size + 1]? = some (.cells #[.int .i64 x, .int .i64 y, .int .i64 z] 23 (0, 0))) := blk_below (by repeat (first | (with_reducible first | exact KB.out | apply blk_drewN | apply blk_drew | apply blk_alloc) | exact KB.out)) hb2
  have cB_0 := blk_cell KB.out 0
  have fB_0 := blk_frozen KB.out 0
  have cB_1 := blk_cell KB.out 1
  have fB_1 := blk_frozen KB.out 1
  have cB_2 := blk_cell KB.out 2
  have fB_2 := blk_frozen KB.out 2
  replace HB : Hid (Below w.heap.size w w2) := below_step (by repeat (first | (with_reducible first | exact HB.out | exact Below.refl _ _ | apply below_alloc | apply bdr | apply below_drew1) | (refine below_set ?_ (by first | omega | (simp; done) | (simp; omega))) | exact HB.out | exact Below.refl _ _)) hb2
  clear hb2
  replace hlA := blk_lt KA.out
  replace hlB := blk_lt KB.out
  go_wp2_with fail
  refine (observatorylaw32_within.calls _ _ _ _ _ (within_yes x y z G.out)).mono ?_
  rintro e w3 ⟨rfl, hb3⟩
  clear cA_0 fA_0 cA_1 fA_1 cA_2 fA_2
  replace KA : Hid (w3.heap[w.heap.size]? = some (.cells #[.int .i64 a, .int .i64 b, .int .i64 c] 23 (0, 0))) := blk_below (by repeat (first | (with_reducible first | exact KA.out | apply blk_drewN | apply blk_drew | apply blk_alloc) | exact KA.out)) hb3
  have cA_0 := blk_cell KA.out 0
  have fA_0 := blk_frozen KA.out 0
  have cA_1 := blk_cell KA.out 1
  have fA_1 := blk_frozen KA.out 1
  have cA_2 := blk_cell KA.out 2
  have fA_2 := blk_frozen KA.out 2
  clear cB_0 fB_0 cB_1 fB_1 cB_2 fB_2
  replace KB : Hid (w3.heap[w.heap.size + 1]? = some (.cells #[.int .i64 x, .int .i64 y, .int .i64 z] 23 (0, 0))) := blk_below (by repeat (first | (with_reducible first | exact KB.out | apply blk_drewN | apply blk_drew | apply blk_alloc) | exact KB.out)) hb3
  have cB_0 := blk_cell KB.out 0
  have fB_0 := blk_frozen KB.out 0
  have cB_1 := blk_cell KB.out 1
  have fB_1 := blk_frozen KB.out 1
  have cB_2 := blk_cell KB.out 2
  have fB_2 := blk_frozen KB.out 2
  replace HB : Hid (Below w.heap.size w w3) := below_step (by repeat (first | (with_reducible first | exact HB.out | exact Below.refl _ _ | apply below_alloc | apply bdr | apply below_drew1) | (refine below_set ?_ (by first | omega | (simp; done) | (simp; omega))) | exact HB.out | exact Below.refl _ _)) hb3
  clear hb3
  replace hlA := blk_lt KA.out
  replace hlB := blk_lt KB.out
  go_wp2_with fail
  refine (unit_Mul.calls _ _ _ _ _ _ _ _ _ _ _ (mulF_range a b c x y z H.out G.out S.out)).mono ?_
  rintro e w4 ⟨rfl, hb4⟩
  clear cA_0 fA_0 cA_1 fA_1 cA_2 fA_2
  replace KA : Hid (w4.heap[w.heap.size]? = some (.cells #[.int .i64 a, .int .i64 b, .int .i64 c] 23 (0, 0))) := blk_below (by repeat (first | (with_reducible first | exact KA.out | apply blk_drewN | apply blk_drew | apply blk_alloc) | exact KA.out)) hb4
  have cA_0 := blk_cell KA.out 0
  have fA_0 := blk_frozen KA.out 0
  have cA_1 := blk_cell KA.out 1
  have fA_1 := blk_frozen KA.out 1
  have cA_2 := blk_cell KA.out 2
  have fA_2 := blk_frozen KA.out 2
  clear cB_0 fB_0 cB_1 fB_1 cB_2 fB_2
  replace KB : Hid (w4.heap[w.heap.size + 1]? = some (.cells #[.int .i64 x, .int .i64 y, .int .i64 z] 23 (0, 0))) := blk_below (by repeat (first | (with_reducible first | exact KB.out | apply blk_drewN | apply blk_drew | apply blk_alloc) | exact KB.out)) hb4
  have cB_0 := blk_cell KB.out 0
  have fB_0 := blk_frozen KB.out 0
  have cB_1 := blk_cell KB.out 1
  have fB_1 := blk_frozen KB.out 1
  have cB_2 := blk_cell KB.out 2
  have fB_2 := blk_frozen KB.out 2
  replace HB : Hid (Below w.heap.size w w4) := below_step (by repeat (first | (with_reducible first | exact HB.out | exact Below.refl _ _ | apply below_alloc | apply bdr | apply below_drew1) | (refine below_set ?_ (by first | omega | (simp; done) | (simp; omega))) | exact HB.out | exact Below.refl _ _)) hb4
  clear hb4
  replace hlA := blk_lt KA.out
  replace hlB := blk_lt KB.out
  go_wp2_with fail
  refine (observatorylaw32_within.calls _ _ _ _ _ (within_no _ _ _ S.out)).mono ?_
  rintro e w5 ⟨rfl, hb5⟩
  have KC : Hid (w5.heap[w4.heap.size]? = some (.cells #[.int .i64 0, .int .i64 0, .int .i64 0] 23 (0, 0))) := blk_below (alloc2_blk w4 (.cells #[.int .i64 0, .int .i64 0, .int .i64 0] 23) (.cells #[.int .i64 (a + x), .int .i64 (b + y), .int .i64 (c + z)] 23)).1 hb5
  have KD : Hid (w5.heap[w4.heap.size + 1]? = some (.cells #[.int .i64 (a + x), .int .i64 (b + y), .int .i64 (c + z)] 23 (0, 0))) := blk_below (alloc2_blk w4 (.cells #[.int .i64 0, .int .i64 0, .int .i64 0] 23) (.cells #[.int .i64 (a + x), .int .i64 (b + y), .int .i64 (c + z)] 23)).2 hb5
  clear cA_0 fA_0 cA_1 fA_1 cA_2 fA_2
  replace KA : Hid (w5.heap[w.heap.size]? = some (.cells #[.int .i64 a, .int .i64 b, .int .i64 c] 23 (0, 0))) := blk_below (by repeat (first | (with_reducible first | exact KA.out | apply blk_drewN | apply blk_drew | apply blk_alloc) | exact KA.out)) hb5
  have cA_0 := blk_cell KA.out 0
  have fA_0 := blk_frozen KA.out 0
  have cA_1 := blk_cell KA.out 1
  have fA_1 := blk_frozen KA.out 1
  have cA_2 := blk_cell KA.out 2
  have fA_2 := blk_frozen KA.out 2
  clear cB_0 fB_0 cB_1 fB_1 cB_2 fB_2
  replace KB : Hid (w5.heap[w.heap.size + 1]? = some (.cells #[.int .i64 x, .int .i64 y, .int .i64 z] 23 (0, 0))) := blk_below (by repeat (first | (with_reducible first | exact KB.out | apply blk_drewN | apply blk_drew | apply blk_alloc) | exact KB.out)) hb5
  have cB_0 := blk_cell KB.out 0
  have fB_0 := blk_frozen KB.out 0
  have cB_1 := blk_cell KB.out 1
  have fB_1 := blk_frozen KB.out 1
  have cB_2 := blk_cell KB.out 2
  have fB_2 := blk_frozen KB.out 2
  have cC_0 := blk_cell KC.out 0
  have fC_0 := blk_frozen KC.out 0
  have cC_1 := blk_cell KC.out 1
  have fC_1 := blk_frozen KC.out 1
  have cC_2 := blk_cell KC.out 2
  have fC_2 := blk_frozen KC.out 2
  have cD_0 := blk_cell KD.out 0
  have fD_0 := blk_frozen KD.out 0
  have cD_1 := blk_cell KD.out 1
  have fD_1 := blk_frozen KD.out 1
  have cD_2 := blk_cell KD.out 2
  have fD_2 := blk_frozen KD.out 2
  replace HB : Hid (Below w.heap.size w w5) := below_step (by repeat (first | (with_reducible first | exact HB.out | exact Below.refl _ _ | apply below_alloc | apply bdr | apply below_drew1) | (refine below_set ?_ (by first | omega | (simp; done) | (simp; omega))) | exact HB.out | exact Below.refl _ _)) hb5
  clear hb5
  replace hlA := blk_lt KA.out
  replace hlB := blk_lt KB.out
  have hlC := blk_lt KC.out
  have hlD := blk_lt KD.out
  go_wp2_with fail
  clear cC_0 fC_0 cC_1 fC_1 cC_2 fC_2
  clear hlC KC
  clear cD_0 fD_0 cD_1 fD_1 cD_2 fD_2
  clear hlD KD
  clear cB_0 fB_0 cB_1 fB_1 cB_2 fB_2
  clear hlB KB
  refine (unit_Power.calls _ _ _ _ _ _ _ _ _ (two_ok a b c H.out D.out)).mono ?_
  rintro e w6 ⟨rfl, hb6⟩
  clear cA_0 fA_0 cA_1 fA_1 cA_2 fA_2
  replace KA : Hid (w6.heap[w.heap.size]? = some (.cells #[.int .i64 a, .int .i64 b, .int .i64 c] 23 (0, 0))) := blk_below (by repeat (first | (with_reducible first | exact KA.out | apply blk_drewN | apply blk_drew | apply blk_alloc) | exact KA.out)) hb6
  have cA_0 := blk_cell KA.out 0
  have fA_0 := blk_frozen KA.out 0
  have cA_1 := blk_cell KA.out 1
  have fA_1 := blk_frozen KA.out 1
  have cA_2 := blk_cell KA.out 2
  have fA_2 := blk_frozen KA.out 2
  replace HB : Hid (Below w.heap.size w w6) := below_step (by repeat (first | (with_reducible first | exact HB.out | exact Below.refl _ _ | apply below_alloc | apply bdr | apply below_drew1) | (refine below_set ?_ (by first | omega | (simp; done) | (simp; omega))) | exact HB.out | exact Below.refl _ _)) hb6
  clear hb6
  replace hlA := blk_lt KA.out
  go_wp2_with fail
  refine (observatorylaw32_within.calls _ _ _ _ _ (within_yes _ _ _ D.out)).mono ?_
  rintro e w7 ⟨rfl, hb7⟩
  clear cA_0 fA_0 cA_1 fA_1 cA_2 fA_2
  replace KA : Hid (w7.heap[w.heap.size]? = some (.cells #[.int .i64 a, .int .i64 b, .int .i64 c] 23 (0, 0))) := blk_below (by repeat (first | (with_reducible first | exact KA.out | apply blk_drewN | apply blk_drew | apply blk_alloc) | exact KA.out)) hb7
  have cA_0 := blk_cell KA.out 0
  have fA_0 := blk_frozen KA.out 0
  have cA_1 := blk_cell KA.out 1
  have fA_1 := blk_frozen KA.out 1
  have cA_2 := blk_cell KA.out 2
  have fA_2 := blk_frozen KA.out 2
  replace HB : Hid (Below w.heap.size w w7) := below_step (by repeat (first | (with_reducible first | exact HB.out | exact Below.refl _ _ | apply below_alloc | apply bdr | apply below_drew1) | (refine below_set ?_ (by first | omega | (simp; done) | (simp; omega))) | exact HB.out | exact Below.refl _ _)) hb7
  clear hb7
  replace hlA := blk_lt KA.out
  go_wp2_with fail
  go_ret
  exact ⟨rfl, HB.out⟩

set_option maxRecDepth 100000 in
set_option maxHeartbeats 4000000 in
theorem errors_nn (a b c x y z : Int) (w : World) (hT : Tabs w) (h : okU a b c) (g : okU x y z) (s : ¬ okU (a + x) (b + y) (c + z)) (d : ¬ okU (2 * a) (2 * b) (2 * c)) :
    Calls Tryd.prog 7 #[.agg #[.int .i64 a, .int .i64 b, .int .i64 c], .agg #[.int .i64 x, .int .i64 y, .int .i64 z]] w fun e w' => e = .returned (.bool true) ∧ Below w.heap.size w w' := by
  have HT := Lib.hid hT
  clear hT
  obtain ⟨⟨a1, a2⟩, ⟨b1, b2⟩, ⟨c1, c2⟩⟩ := id h
  obtain ⟨⟨x1, x2⟩, ⟨y1, y2⟩, ⟨z1, z2⟩⟩ := id g
  have H := Lib.hid h
  clear h
  have G := Lib.hid g
  clear g
  have S := Lib.hid s
  clear s
  have D := Lib.hid d
  clear d
  have h2 := alloc2_blk w (.cells #[.int .i64 a, .int .i64 b, .int .i64 c] 23) (.cells #[.int .i64 x, .int .i64 y, .int .i64 z] 23)
  go_enter Tryd.func7, Tryd.ntmps7
  go_wp2_with fail
  refine (head.calls true _ ((HT.out.alloc _).alloc _) rfl).mono ?_
  rintro e w1 ⟨rfl, hb1⟩
  have KA : Hid (w1.heap[w.heap.size]? = some (.cells #[.int .i64 a, .int .i64 b, .int .i64 c] 23 (0, 0))) := blk_below h2.1 hb1
  have KB : Hid (w1.heap[w.heap.size + 1]? = some (.cells #[.int .i64 x, .int .i64 y, .int .i64 z] 23 (0, 0))) := blk_below h2.2 hb1
  have cA_0 := blk_cell KA.out 0
  have fA_0 := blk_frozen KA.out 0
  have cA_1 := blk_cell KA.out 1
  have fA_1 := blk_frozen KA.out 1
  have cA_2 := blk_cell KA.out 2
  have fA_2 := blk_frozen KA.out 2
  have cB_0 := blk_cell KB.out 0
  have fB_0 := blk_frozen KB.out 0
  have cB_1 := blk_cell KB.out 1
  have fB_1 := blk_frozen KB.out 1
  have cB_2 := blk_cell KB.out 2
  have fB_2 := blk_frozen KB.out 2
  have HB : Hid (Below w.heap.size w w1) := below_step (by repeat (first | (with_reducible first | exact HB.out | exact Below.refl _ _ | apply below_alloc | apply bdr | apply below_drew1) | (refine below_set ?_ (by first | omega | (simp; done) | (simp; omega))) | exact HB.out | exact Below.refl _ _)) hb1
  clear hb1
  clear h2
  have hlA := blk_lt KA.out
  have hlB := blk_lt KB.out
  go_wp2_with fail
  refine (observatorylaw32_within.calls _ _ _ _ _ (within_yes a b c H.out)).mono ?_
  rintro e w2 ⟨rfl, hb2⟩
  clear cA_0 fA_0 cA_1 fA_1 cA_2 fA_2
  replace KA : Hid (w2.heap[w.heap.size]? = some (.cells #[.int .i64 a, .int .i64 b, .int .i64 c] 23 (0, 0))) := blk_below (by repeat (first | (with_reducible first | exact KA.out | apply blk_drewN | apply blk_drew | apply blk_alloc) | exact KA.out)) hb2
  have cA_0 := blk_cell KA.out 0
  have fA_0 := blk_frozen KA.out 0
  have cA_1 := blk_cell KA.out 1
  have fA_1 := blk_frozen KA.out 1
  have cA_2 := blk_cell KA.out 2
  have fA_2 := blk_frozen KA.out 2
  clear cB_0 fB_0 cB_1 fB_1 cB_2 fB_2
  replace KB : Hid (w2.heap[w.heap.size + 1]? = some (.cells #[.int .i64 x, .int .i64 y, .int .i64 z] 23 (0, 0))) := blk_below (by repeat (first | (with_reducible first | exact KB.out | apply blk_drewN | apply blk_drew | apply blk_alloc) | exact KB.out)) hb2
  have cB_0 := blk_cell KB.out 0
  have fB_0 := blk_frozen KB.out 0
  have cB_1 := blk_cell KB.out 1
  have fB_1 := blk_frozen KB.out 1
  have cB_2 := blk_cell KB.out 2
  have fB_2 := blk_frozen KB.out 2
  replace HB : Hid (Below w.heap.size w w2) := below_step (by repeat (first | (with_reducible first | exact HB.out | exact Below.refl _ _ | apply below_alloc | apply bdr | apply below_drew1) | (refine below_set ?_ (by first | omega | (simp; done) | (simp; omega))) | exact HB.out | exact Below.refl _ _)) hb2
  clear hb2
  replace hlA := blk_lt KA.out
  replace hlB := blk_lt KB.out
  go_wp2_with fail
  refine (observatorylaw32_within.calls _ _ _ _ _ (within_yes x y z G.out)).mono ?_
  rintro e w3 ⟨rfl, hb3⟩
  clear cA_0 fA_0 cA_1 fA_1 cA_2 fA_2
  replace KA : Hid (w3.heap[w.heap.size]? = some (.cells #[.int .i64 a, .int .i64 b, .int .i64 c] 23 (0, 0))) := blk_below (by repeat (first | (with_reducible first | exact KA.out | apply blk_drewN | apply blk_drew | apply blk_alloc) | exact KA.out)) hb3
  have cA_0 := blk_cell KA.out 0
  have fA_0 := blk_frozen KA.out 0
  have cA_1 := blk_cell KA.out 1
  have fA_1 := blk_frozen KA.out 1
  have cA_2 := blk_cell KA.out 2
  have fA_2 := blk_frozen KA.out 2
  clear cB_0 fB_0 cB_1 fB_1 cB_2 fB_2
  replace KB : Hid (w3.heap[w.heap.size + 1]? = some (.cells #[.int .i64 x, .int .i64 y, .int .i64 z] 23 (0, 0))) := blk_below (by repeat (first | (with_reducible first | exact KB.out | apply blk_drewN | apply blk_drew | apply blk_alloc) | exact KB.out)) hb3
  have cB_0 := blk_cell KB.out 0
  have fB_0 := blk_frozen KB.out 0
  have cB_1 := blk_cell KB.out 1
  have fB_1 := blk_frozen KB.out 1
  have cB_2 := blk_cell KB.out 2
  have fB_2 := blk_frozen KB.out 2
  replace HB : Hid (Below w.heap.size w w3) := below_step (by repeat (first | (with_reducible first | exact HB.out | exact Below.refl _ _ | apply below_alloc | apply bdr | apply below_drew1) | (refine below_set ?_ (by first | omega | (simp; done) | (simp; omega))) | exact HB.out | exact Below.refl _ _)) hb3
  clear hb3
  replace hlA := blk_lt KA.out
  replace hlB := blk_lt KB.out
  go_wp2_with fail
  refine (unit_Mul.calls _ _ _ _ _ _ _ _ _ _ _ (mulF_range a b c x y z H.out G.out S.out)).mono ?_
  rintro e w4 ⟨rfl, hb4⟩
  clear cA_0 fA_0 cA_1 fA_1 cA_2 fA_2
  replace KA : Hid (w4.heap[w.heap.size]? = some (.cells #[.int .i64 a, .int .i64 b, .int .i64 c] 23 (0, 0))) := blk_below (by repeat (first | (with_reducible first | exact KA.out | apply blk_drewN | apply blk_drew | apply blk_alloc) | exact KA.out)) hb4
  have cA_0 := blk_cell KA.out 0
  have fA_0 := blk_frozen KA.out 0
  have cA_1 := blk_cell KA.out 1
  have fA_1 := blk_frozen KA.out 1
  have cA_2 := blk_cell KA.out 2
  have fA_2 := blk_frozen KA.out 2
  clear cB_0 fB_0 cB_1 fB_1 cB_2 fB_2
  replace KB : Hid (w4.heap[w.heap.size + 1]? = some (.cells #[.int .i64 x, .int .i64 y, .int .i64 z] 23 (0, 0))) := blk_below (by repeat (first | (with_reducible first | exact KB.out | apply blk_drewN | apply blk_drew | apply blk_alloc) | exact KB.out)) hb4
  have cB_0 := blk_cell KB.out 0
  have fB_0 := blk_frozen KB.out 0
  have cB_1 := blk_cell KB.out 1
  have fB_1 := blk_frozen KB.out 1
  have cB_2 := blk_cell KB.out 2
  have fB_2 := blk_frozen KB.out 2
  replace HB : Hid (Below w.heap.size w w4) := below_step (by repeat (first | (with_reducible first | exact HB.out | exact Below.refl _ _ | apply below_alloc | apply bdr | apply below_drew1) | (refine below_set ?_ (by first | omega | (simp; done) | (simp; omega))) | exact HB.out | exact Below.refl _ _)) hb4
  clear hb4
  replace hlA := blk_lt KA.out
  replace hlB := blk_lt KB.out
  go_wp2_with fail
  refine (observatorylaw32_within.calls _ _ _ _ _ (within_no _ _ _ S.out)).mono ?_
  rintro e w5 ⟨rfl, hb5⟩
  have KC : Hid (w5.heap[w4.heap.size]? = some (.cells #[.int .i64 0, .int .i64 0, .int .i64 0] 23 (0, 0))) := blk_below (alloc2_blk w4 (.cells #[.int .i64 0, .int .i64 0, .int .i64 0] 23) (.cells #[.int .i64 (a + x), .int .i64 (b + y), .int .i64 (c + z)] 23)).1 hb5
  have KD : Hid (w5.heap[w4.heap.size + 1]? = some (.cells #[.int .i64 (a + x), .int .i64 (b + y), .int .i64 (c + z)] 23 (0, 0))) := blk_below (alloc2_blk w4 (.cells #[.int .i64 0, .int .i64 0, .int .i64 0] 23) (.cells #[.int .i64 (a + x), .int .i64 (b + y), .int .i64 (c + z)] 23)).2 hb5
  clear cA_0 fA_0 cA_1 fA_1 cA_2 fA_2
  replace KA : Hid (w5.heap[w.heap.size]? = some (.cells #[.int .i64 a, .int .i64 b, .int .i64 c] 23 (0, 0))) := blk_below (by repeat (first | (with_reducible first | exact KA.out | apply blk_drewN | apply blk_drew | apply blk_alloc) | exact KA.out)) hb5
  have cA_0 := blk_cell KA.out 0
  have fA_0 := blk_frozen KA.out 0
  have cA_1 := blk_cell KA.out 1
  have fA_1 := blk_frozen KA.out 1
  have cA_2 := blk_cell KA.out 2
  have fA_2 := blk_frozen KA.out 2
  clear cB_0 fB_0 cB_1 fB_1 cB_2 fB_2
  replace KB : Hid (w5.heap[w.heap.size + 1]? = some (.cells #[.int .i64 x, .int .i64 y, .int .i64 z] 23 (0, 0))) := blk_below (by repeat (first | (with_reducible first | exact KB.out | apply blk_drewN | apply blk_drew | apply blk_alloc) | exact KB.out)) hb5
  have cB_0 := blk_cell KB.out 0
  have fB_0 := blk_frozen KB.out 0
  have cB_1 := blk_cell KB.out 1
  have fB_1 := blk_frozen KB.out 1
  have cB_2 := blk_cell KB.out 2
  have fB_2 := blk_frozen KB.out 2
  have cC_0 := blk_cell KC.out 0
  have fC_0 := blk_frozen KC.out 0
  have cC_1 := blk_cell KC.out 1
  have fC_1 := blk_frozen KC.out 1
  have cC_2 := blk_cell KC.out 2
  have fC_2 := blk_frozen KC.out 2
  have cD_0 := blk_cell KD.out 0
  have fD_0 := blk_frozen KD.out 0
  have cD_1 := blk_cell KD.out 1
  have fD_1 := blk_frozen KD.out 1
  have cD_2 := blk_cell KD.out 2
  have fD_2 := blk_frozen KD.out 2
  replace HB : Hid (Below w.heap.size w w5) := below_step (by repeat (first | (with_reducible first | exact HB.out | exact Below.refl _ _ | apply below_alloc | apply bdr | apply below_drew1) | (refine below_set ?_ (by first | omega | (simp; done) | (simp; omega))) | exact HB.out | exact Below.refl _ _)) hb5
  clear hb5
  replace hlA := blk_lt KA.out
  replace hlB := blk_lt KB.out
  have hlC := blk_lt KC.out
  have hlD := blk_lt KD.out
  go_wp2_with fail
  clear cC_0 fC_0 cC_1 fC_1 cC_2 fC_2
  clear hlC KC
  clear cD_0 fD_0 cD_1 fD_1 cD_2 fD_2
  clear hlD KD
  clear cB_0 fB_0 cB_1 fB_1 cB_2 fB_2
  clear hlB KB
  refine (unit_Power.calls _ _ _ _ _ _ _ _ _ (two_range a b c H.out D.out)).mono ?_
  rintro e w6 ⟨rfl, hb6⟩
  clear cA_0 fA_0 cA_1 fA_1 cA_2 fA_2
  replace KA : Hid (w6.heap[w.heap.size]? = some (.cells #[.int .i64 a, .int .i64 b, .int .i64 c] 23 (0, 0))) := blk_below (by repeat (first | (with_reducible first | exact KA.out | apply blk_drewN | apply blk_drew | apply blk_alloc) | exact KA.out)) hb6
  have cA_0 := blk_cell KA.out 0
  have fA_0 := blk_frozen KA.out 0
  have cA_1 := blk_cell KA.out 1
  have fA_1 := blk_frozen KA.out 1
  have cA_2 := blk_cell KA.out 2
  have fA_2 := blk_frozen KA.out 2
  replace HB : Hid (Below w.heap.size w w6) := below_step (by repeat (first | (with_reducible first | exact HB.out | exact Below.refl _ _ | apply below_alloc | apply bdr | apply below_drew1) | (refine below_set ?_ (by first | omega | (simp; done) | (simp; omega))) | exact HB.out | exact Below.refl _ _)) hb6
  clear hb6
  replace hlA := blk_lt KA.out
  go_wp2_with fail
  refine (observatorylaw32_within.calls _ _ _ _ _ (within_no _ _ _ D.out)).mono ?_
  rintro e w7 ⟨rfl, hb7⟩
  clear cA_0 fA_0 cA_1 fA_1 cA_2 fA_2
  replace KA : Hid (w7.heap[w.heap.size]? = some (.cells #[.int .i64 a, .int .i64 b, .int .i64 c] 23 (0, 0))) := blk_below (by repeat (first | (with_reducible first | exact KA.out | apply blk_drewN | apply blk_drew | apply blk_alloc) | exact KA.out)) hb7
  have cA_0 := blk_cell KA.out 0
  have fA_0 := blk_frozen KA.out 0
  have cA_1 := blk_cell KA.out 1
  have fA_1 := blk_frozen KA.out 1
  have cA_2 := blk_cell KA.out 2
  have fA_2 := blk_frozen KA.out 2
  replace HB : Hid (Below w.heap.size w w7) := below_step (by repeat (first | (with_reducible first | exact HB.out | exact Below.refl _ _ | apply below_alloc | apply bdr | apply below_drew1) | (refine below_set ?_ (by first | omega | (simp; done) | (simp; omega))) | exact HB.out | exact Below.refl _ _)) hb7
  clear hb7
  replace hlA := blk_lt KA.out
  go_wp2_with fail
  go_ret
  exact ⟨rfl, HB.out⟩

theorem errors_walk (a b c x y z : Int) (w : World) (hT : Tabs w) :
    Calls Tryd.prog 7 #[.agg #[.int .i64 a, .int .i64 b, .int .i64 c], .agg #[.int .i64 x, .int .i64 y, .int .i64 z]] w fun e w' => e = .returned (.bool true) ∧ Below w.heap.size w w' := by
  by_cases h : okU a b c
  · by_cases g : okU x y z
    · by_cases s : okU (a + x) (b + y) (c + z)
      · by_cases d : okU (2 * a) (2 * b) (2 * c)
        · exact errors_sd a b c x y z w hT h g s d
        · exact errors_sn a b c x y z w hT h g s d
      · by_cases d : okU (2 * a) (2 * b) (2 * c)
        · exact errors_nd a b c x y z w hT h g s d
        · exact errors_nn a b c x y z w hT h g s d
    · exact errors_b a b c x y z w hT h g
  · exact errors_a a b c x y z w hT h

end Go.Proofs.YtifamjapgpcjjaaDoor.Ext
