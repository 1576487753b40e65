/- UnitGroup: walked along its ways; each ends in true. -/
import Derived.Test.YtifamjapgpcjjaaDoorPlain
namespace Go.Proofs.YtifamjapgpcjjaaDoor.Ext
open Go Go.Proofs Go.RowKit Go.Proofs.YtifamjapgpcjjaaDoorW.PrintWords Go.Proofs.YtifamjapgpcjjaaDoor.H
set_option linter.unusedVariables false
set_option linter.unusedSimpArgs false

theorem textF_ok (a b c : Int) (h : okU a b c) : unit_Text.f a b c = some (textS a b c, 0) := by unfold unit_Text.f textR; rw [if_pos h]
theorem textF_no (a b c : Int) (h : ¬ okU a b c) : unit_Text.f a b c = some (⟨#[]⟩, 1) := by unfold unit_Text.f textR; rw [if_neg h]
theorem mulF_no (a b c x y z : Int) (h : ¬ okU a b c) : unit_Mul.f a b c x y z = some (0, 0, 0, 1) := by unfold unit_Mul.f mulR; rw [if_neg (fun e => h e.1)]
theorem mulF_comm (a b c x y z : Int) : unit_Mul.f x y z a b c = unit_Mul.f a b c x y z := by unfold unit_Mul.f; rw [mul_comm']
theorem mulF_one (a b c : Int) (h : okU a b c) : unit_Mul.f a b c 0 0 0 = some (a, b, c, 0) := by unfold unit_Mul.f; rw [mul_one' a b c h]
theorem powF_back (a b c : Int) (h : okU a b c) : unit_Power.f a b c (-1) = some (-a, -b, -c, 0) := by unfold unit_Power.f; rw [power_back a b c h]
theorem mulF_back (a b c : Int) (h : okU a b c) : unit_Mul.f a b c (-a) (-b) (-c) = some (0, 0, 0, 0) := by unfold unit_Mul.f; rw [mul_back a b c h]
theorem mulF_is {a b c x y z p q r : Int} (h : unit_Mul.f a b c x y z = some (p, q, r, 0)) : okU a b c ∧ okU x y z ∧ p = a + x ∧ q = b + y ∧ r = c + z := mul_ok (Option.some.inj h)

set_option maxRecDepth 100000 in
set_option maxHeartbeats 4000000 in
theorem group_a (a b c x y z s t u : Int) (w : World) (hT : Tabs w) (h : ¬ okU a b c) :
    Calls Tryd.prog 4 #[.agg #[.int .i64 a, .int .i64 b, .int .i64 c], .agg #[.int .i64 x, .int .i64 y, .int .i64 z], .agg #[.int .i64 s, .int .i64 t, .int .i64 u]] w fun e w' => e = .returned (.bool true) ∧ Below w.heap.size w w' := by
  have HT := Lib.hid hT
  clear hT
  have H := Lib.hid h
  clear h
  have h3 := alloc3_blk w (.cells #[.int .i64 a, .int .i64 b, .int .i64 c] 23) (.cells #[.int .i64 x, .int .i64 y, .int .i64 z] 23) (.cells #[.int .i64 s, .int .i64 t, .int .i64 u] 23)
  go_enter Tryd.func4, Tryd.ntmps4
  go_wp2_with fail
  refine (head.calls true _ (((HT.out.alloc _).alloc _).alloc _) rfl).mono ?_
  rintro e w1 ⟨rfl, hb1⟩
  have KA : Hid (w1.heap[w.heap.size]? = some (.cells #[.int .i64 a, .int .i64 b, .int .i64 c] 23 (0, 0))) := blk_below h3.1 hb1
  have KB : Hid (w1.heap[w.heap.size + 1]? = some (.cells #[.int .i64 x, .int .i64 y, .int .i64 z] 23 (0, 0))) := blk_below h3.2.1 hb1
  have KC : Hid (w1.heap[w.heap.size + 1 + 1]? = some (.cells #[.int .i64 s, .int .i64 t, .int .i64 u] 23 (0, 0))) := blk_below h3.2.2 hb1
  have cA_0 := blk_cell KA.out 0
  have fA_0 := blk_frozen KA.out 0
  have cA_1 := blk_cell KA.out 1
  have fA_1 := blk_frozen KA.out 1
  have cA_2 := blk_cell KA.out 2
  have fA_2 := blk_frozen KA.out 2
  have cB_0 := blk_cell KB.out 0
  have fB_0 := blk_frozen KB.out 0
  have cB_1 := blk_cell KB.out 1
  have fB_1 := blk_frozen KB.out 1
  have cB_2 := blk_cell KB.out 2
  have fB_2 := blk_frozen KB.out 2
  have cC_0 := blk_cell KC.out 0
  have fC_0 := blk_frozen KC.out 0
  have cC_1 := blk_cell KC.out 1
  have fC_1 := blk_frozen KC.out 1
  have cC_2 := blk_cell KC.out 2
  have fC_2 := blk_frozen KC.out 2
  have HB : Hid (Below w.heap.size w w1) := below_step (by repeat (first | (with_reducible first | exact HB.out | exact Below.refl _ _ | apply below_alloc | apply bdr | apply below_drew1) | (refine below_set ?_ (by first | omega | (simp; done) | (simp; omega))) | exact HB.out | exact Below.refl _ _)) hb1
  clear hb1
  clear h3
  have hlA := blk_lt KA.out
  have hlB := blk_lt KB.out
  have hlC := blk_lt KC.out
  go_wp2_with fail
  clear cC_0 fC_0 cC_1 fC_1 cC_2 fC_2
  clear hlC KC
  refine (unit_Mul.calls _ _ _ _ _ _ _ _ _ _ _ (mulF_no a b c x y z H.out)).mono ?_
  rintro e w2 ⟨rfl, hb2⟩
  clear cA_0 fA_0 cA_1 fA_1 cA_2 fA_2
  replace KA : Hid (w2.heap[w.heap.size]? = some (.cells #[.int .i64 a, .int .i64 b, .int .i64 c] 23 (0, 0))) := blk_below (by repeat (first | (with_reducible first | exact KA.out | apply blk_drewN | apply blk_drew | apply blk_alloc) | exact KA.out)) hb2
  have cA_0 := blk_cell KA.out 0
  have fA_0 := blk_frozen KA.out 0
  have cA_1 := blk_cell KA.out 1
  have fA_1 := blk_frozen KA.out 1
  have cA_2 := blk_cell KA.out 2
  have fA_2 := blk_frozen KA.out 2
  clear cB_0 fB_0 cB_1 fB_1 cB_2 fB_2
  replace KB : Hid (w2.heap[w.heap.size + 1]? = some (.cells #[.int .i64 x, .int .i64 y, .int .i64 z] 23 (0, 0))) := blk_below (by repeat (first | (with_reducible first | exact KB.out | apply blk_drewN | apply blk_drew | apply blk_alloc) | exact KB.out)) hb2
  have cB_0 := blk_cell KB.out 0
  have fB_0 := blk_frozen KB.out 0
  have cB_1 := blk_cell KB.out 1
  have fB_1 := blk_frozen KB.out 1
  have cB_2 := blk_cell KB.out 2
  have fB_2 := blk_frozen KB.out 2
  replace HB : Hid (Below w.heap.size w w2) := below_step (by repeat (first | (with_reducible first | exact HB.out | exact Below.refl _ _ | apply below_alloc | apply bdr | apply below_drew1) | (refine below_set ?_ (by first | omega | (simp; done) | (simp; omega))) | exact HB.out | exact Below.refl _ _)) hb2
  clear hb2
  replace hlA := blk_lt KA.out
  replace hlB := blk_lt KB.out
  go_wp2_with fail
  refine (unit_Mul.calls _ _ _ _ _ _ _ _ _ _ _ ((mulF_comm a b c x y z).trans (mulF_no a b c x y z H.out))).mono ?_
  rintro e w3 ⟨rfl, hb3⟩
  have KP : Hid (w3.heap[w2.heap.size]? = some (.cells #[.int .i64 0, .int .i64 0, .int .i64 0] 23 (0, 0))) := blk_below (blk_new w2 (.cells #[.int .i64 0, .int .i64 0, .int .i64 0] 23)) hb3
  clear cA_0 fA_0 cA_1 fA_1 cA_2 fA_2
  replace KA : Hid (w3.heap[w.heap.size]? = some (.cells #[.int .i64 a, .int .i64 b, .int .i64 c] 23 (0, 0))) := blk_below (by repeat (first | (with_reducible first | exact KA.out | apply blk_drewN | apply blk_drew | apply blk_alloc) | exact KA.out)) hb3
  have cA_0 := blk_cell KA.out 0
  have fA_0 := blk_frozen KA.out 0
  have cA_1 := blk_cell KA.out 1
  have fA_1 := blk_frozen KA.out 1
  have cA_2 := blk_cell KA.out 2
  have fA_2 := blk_frozen KA.out 2
  clear cB_0 fB_0 cB_1 fB_1 cB_2 fB_2
  replace KB : Hid (w3.heap[w.heap.size + 1]? = some (.cells #[.int .i64 x, .int .i64 y, .int .i64 z] 23 (0, 0))) := blk_below (by repeat (first | (with_reducible first | exact KB.out | apply blk_drewN | apply blk_drew | apply blk_alloc) | exact KB.out)) hb3
  have cB_0 := blk_cell KB.out 0
  have fB_0 := blk_frozen KB.out 0
  have cB_1 := blk_cell KB.out 1
  have fB_1 := blk_frozen KB.out 1
  have cB_2 := blk_cell KB.out 2
  have fB_2 := blk_frozen KB.out 2
  have cP_0 := blk_cell KP.out 0
  have fP_0 := blk_frozen KP.out 0
  have cP_1 := blk_cell KP.out 1
  have fP_1 := blk_frozen KP.out 1
  have cP_2 := blk_cell KP.out 2
  have fP_2 := blk_frozen KP.out 2
  replace HB : Hid (Below w.heap.size w w3) := below_step (by repeat (first | (with_reducible first | exact HB.out | exact Below.refl _ _ | apply below_alloc | apply bdr | apply below_drew1) | (refine below_set ?_ (by first | omega | (simp; done) | (simp; omega))) | exact HB.out | exact Below.refl _ _)) hb3
  clear hb3
  replace hlA := blk_lt KA.out
  replace hlB := blk_lt KB.out
  have hlP := blk_lt KP.out
  go_wp2_with fail
  refine (unit_Text.calls _ _ _ _ _ _ ((HT.out.below HB.out).alloc _) (textF_no a b c H.out)).mono ?_
  rintro e w4 ⟨rfl, hb4⟩
  have KQ : Hid (w4.heap[w3.heap.size]? = some (.cells #[.int .i64 0, .int .i64 0, .int .i64 0] 23 (0, 0))) := blk_below (blk_new w3 (.cells #[.int .i64 0, .int .i64 0, .int .i64 0] 23)) hb4
  clear cA_0 fA_0 cA_1 fA_1 cA_2 fA_2
  replace KA : Hid (w4.heap[w.heap.size]? = some (.cells #[.int .i64 a, .int .i64 b, .int .i64 c] 23 (0, 0))) := blk_below (by repeat (first | (with_reducible first | exact KA.out | apply blk_drewN | apply blk_drew | apply blk_alloc) | exact KA.out)) hb4
  have cA_0 := blk_cell KA.out 0
  have fA_0 := blk_frozen KA.out 0
  have cA_1 := blk_cell KA.out 1
  have fA_1 := blk_frozen KA.out 1
  have cA_2 := blk_cell KA.out 2
  have fA_2 := blk_frozen KA.out 2
  clear cB_0 fB_0 cB_1 fB_1 cB_2 fB_2
  replace KB : Hid (w4.heap[w.heap.size + 1]? = some (.cells #[.int .i64 x, .int .i64 y, .int .i64 z] 23 (0, 0))) := blk_below (by repeat (first | (with_reducible first | exact KB.out | apply blk_drewN | apply blk_drew | apply blk_alloc) | exact KB.out)) hb4
  have cB_0 := blk_cell KB.out 0
  have fB_0 := blk_frozen KB.out 0
  have cB_1 := blk_cell KB.out 1
  have fB_1 := blk_frozen KB.out 1
  have cB_2 := blk_cell KB.out 2
  have fB_2 := blk_frozen KB.out 2
  clear cP_0 fP_0 cP_1 fP_1 cP_2 fP_2
  replace KP : Hid (w4.heap[w2.heap.size]? = some (.cells #[.int .i64 0, .int .i64 0, .int .i64 0] 23 (0, 0))) := blk_below (by repeat (first | (with_reducible first | exact KP.out | apply blk_drewN | apply blk_drew | apply blk_alloc) | exact KP.out)) hb4
  have cP_0 := blk_cell KP.out 0
  have fP_0 := blk_frozen KP.out 0
  have cP_1 := blk_cell KP.out 1
  have fP_1 := blk_frozen KP.out 1
  have cP_2 := blk_cell KP.out 2
  have fP_2 := blk_frozen KP.out 2
  have cQ_0 := blk_cell KQ.out 0
  have fQ_0 := blk_frozen KQ.out 0
  have cQ_1 := blk_cell KQ.out 1
  have fQ_1 := blk_frozen KQ.out 1
  have cQ_2 := blk_cell KQ.out 2
  have fQ_2 := blk_frozen KQ.out 2
  replace HB : Hid (Below w.heap.size w w4) := below_step (by repeat (first | (with_reducible first | exact HB.out | exact Below.refl _ _ | apply below_alloc | apply bdr | apply below_drew1) | (refine below_set ?_ (by first | omega | (simp; done) | (simp; omega))) | exact HB.out | exact Below.refl _ _)) hb4
  clear hb4
  replace hlA := blk_lt KA.out
  replace hlB := blk_lt KB.out
  replace hlP := blk_lt KP.out
  have hlQ := blk_lt KQ.out
  go_wp2_with fail
  go_ret
  exact ⟨rfl, HB.out⟩

set_option maxRecDepth 100000 in
set_option maxHeartbeats 4000000 in
theorem group_e (a b c x y z s t u : Int) (w : World) (hT : Tabs w) (p1 p2 p3 q1 q2 q3 r1 r2 r3 s1 s2 s3 e j k l : Int) (h : okU a b c) (m1 : unit_Mul.f a b c x y z = some (p1, p2, p3, e)) (m3 : unit_Mul.f x y z s t u = some (q1, q2, q3, j)) (m4 : unit_Mul.f p1 p2 p3 s t u = some (r1, r2, r3, k)) (m5 : unit_Mul.f a b c q1 q2 q3 = some (s1, s2, s3, l)) (ze : ¬ e = 0) :
    Calls Tryd.prog 4 #[.agg #[.int .i64 a, .int .i64 b, .int .i64 c], .agg #[.int .i64 x, .int .i64 y, .int .i64 z], .agg #[.int .i64 s, .int .i64 t, .int .i64 u]] w fun e w' => e = .returned (.bool true) ∧ Below w.heap.size w w' := by
  have HT := Lib.hid hT
  clear hT
  have H := Lib.hid h
  clear h
  have M1 := Lib.hid m1
  clear m1
  have M3 := Lib.hid m3
  clear m3
  have M4 := Lib.hid m4
  clear m4
  have M5 := Lib.hid m5
  clear m5
  have ze1 : (e == 0) = false := by simpa using ze
  have ze2 : (e != 0) = true := by simpa using ze
  have h3 := alloc3_blk w (.cells #[.int .i64 a, .int .i64 b, .int .i64 c] 23) (.cells #[.int .i64 x, .int .i64 y, .int .i64 z] 23) (.cells #[.int .i64 s, .int .i64 t, .int .i64 u] 23)
  go_enter Tryd.func4, Tryd.ntmps4
  go_wp2_with fail
  refine (head.calls true _ (((HT.out.alloc _).alloc _).alloc _) rfl).mono ?_
  rintro e w1 ⟨rfl, hb1⟩
  have KA : Hid (w1.heap[w.heap.size]? = some (.cells #[.int .i64 a, .int .i64 b, .int .i64 c] 23 (0, 0))) := blk_below h3.1 hb1
  have KB : Hid (w1.heap[w.heap.size + 1]? = some (.cells #[.int .i64 x, .int .i64 y, .int .i64 z] 23 (0, 0))) := blk_below h3.2.1 hb1
  have KC : Hid (w1.heap[w.heap.size + 1 + 1]? = some (.cells #[.int .i64 s, .int .i64 t, .int .i64 u] 23 (0, 0))) := blk_below h3.2.2 hb1
  have cA_0 := blk_cell KA.out 0
  have fA_0 := blk_frozen KA.out 0
  have cA_1 := blk_cell KA.out 1
  have fA_1 := blk_frozen KA.out 1
  have cA_2 := blk_cell KA.out 2
  have fA_2 := blk_frozen KA.out 2
  have cB_0 := blk_cell KB.out 0
  have fB_0 := blk_frozen KB.out 0
  have cB_1 := blk_cell KB.out 1
  have fB_1 := blk_frozen KB.out 1
  have cB_2 := blk_cell KB.out 2
  have fB_2 := blk_frozen KB.out 2
  have cC_0 := blk_cell KC.out 0
  have fC_0 := blk_frozen KC.out 0
  have cC_1 := blk_cell KC.out 1
  have fC_1 := blk_frozen KC.out 1
  have cC_2 := blk_cell KC.out 2
  have fC_2 := blk_frozen KC.out 2
  have HB : Hid (Below w.heap.size w w1) := below_step (by repeat (first | (with_reducible first | exact HB.out | exact Below.refl _ _ | apply below_alloc | apply bdr | apply below_drew1) | (refine below_set ?_ (by first | omega | (simp; done) | (simp; omega))) | exact HB.out | exact Below.refl _ _)) hb1
  clear hb1
  clear h3
  have hlA := blk_lt KA.out
  have hlB := blk_lt KB.out
  have hlC := blk_lt KC.out
  go_wp2_with fail
  refine (unit_Mul.calls _ _ _ _ _ _ _ _ _ _ _ M1.out).mono ?_
  rintro e w2 ⟨rfl, hb2⟩
  clear cA_0 fA_0 cA_1 fA_1 cA_2 fA_2
  replace KA : Hid (w2.heap[w.heap.size]? = some (.cells #[.int .i64 a, .int .i64 b, .int .i64 c] 23 (0, 0))) := blk_below (by repeat (first | (with_reducible first | exact KA.out | apply blk_drewN | apply blk_drew | apply blk_alloc) | exact KA.out)) hb2
  have cA_0 := blk_cell KA.out 0
  have fA_0 := blk_frozen KA.out 0
  have cA_1 := blk_cell KA.out 1
  have fA_1 := blk_frozen KA.out 1
  have cA_2 := blk_cell KA.out 2
  have fA_2 := blk_frozen KA.out 2
  clear cB_0 fB_0 cB_1 fB_1 cB_2 fB_2
  replace KB : Hid (w2.heap[w.heap.size + 1]? = some (.cells #[.int .i64 x, .int .i64 y, .int .i64 z] 23 (0, 0))) := blk_below (by repeat (first | (with_reducible first | exact KB.out | apply blk_drewN | apply blk_drew | apply blk_alloc) | exact KB.out)) hb2
  have cB_0 := blk_cell KB.out 0
  have fB_0 := blk_frozen KB.out 0
  have cB_1 := blk_cell KB.out 1
  have fB_1 := blk_frozen KB.out 1
  have cB_2 := blk_cell KB.out 2
  have fB_2 := blk_frozen KB.out 2
  clear cC_0 fC_0 cC_1 fC_1 cC_2 fC_2
  replace KC : Hid (w2.heap[w.heap.size + 1 + 1]? = some (.cells #[.int .i64 s, .int .i64 t, .int .i64 u] 23 (0, 0))) := blk_below (by repeat (first | (with_reducible first | exact KC.out | apply blk_drewN | apply blk_drew | apply blk_alloc) | exact KC.out)) hb2
  have cC_0 := blk_cell KC.out 0
  have fC_0 := blk_frozen KC.out 0
  have cC_1 := blk_cell KC.out 1
  have fC_1 := blk_frozen KC.out 1
  have cC_2 := blk_cell KC.out 2
  have fC_2 := blk_frozen KC.out 2
  replace HB : Hid (Below w.heap.size w w2) := below_step (by repeat (first | (with_reducible first | exact HB.out | exact Below.refl _ _ | apply below_alloc | apply bdr | apply below_drew1) | (refine below_set ?_ (by first | omega | (simp; done) | (simp; omega))) | exact HB.out | exact Below.refl _ _)) hb2
  clear hb2
  replace hlA := blk_lt KA.out
  replace hlB := blk_lt KB.out
  replace hlC := blk_lt KC.out
  go_wp2_with fail
  refine (unit_Mul.calls _ _ _ _ _ _ _ _ _ _ _ ((mulF_comm a b c x y z).trans M1.out)).mono ?_
  rintro e w3 ⟨rfl, hb3⟩
  have KP : Hid (w3.heap[w2.heap.size]? = some (.cells #[.int .i64 p1, .int .i64 p2, .int .i64 p3] 23 (0, 0))) := blk_below (blk_new w2 (.cells #[.int .i64 p1, .int .i64 p2, .int .i64 p3] 23)) hb3
  clear cA_0 fA_0 cA_1 fA_1 cA_2 fA_2
  replace KA : Hid (w3.heap[w.heap.size]? = some (.cells #[.int .i64 a, .int .i64 b, .int .i64 c] 23 (0, 0))) := blk_below (by repeat (first | (with_reducible first | exact KA.out | apply blk_drewN | apply blk_drew | apply blk_alloc) | exact KA.out)) hb3
  have cA_0 := blk_cell KA.out 0
  have fA_0 := blk_frozen KA.out 0
  have cA_1 := blk_cell KA.out 1
  have fA_1 := blk_frozen KA.out 1
  have cA_2 := blk_cell KA.out 2
  have fA_2 := blk_frozen KA.out 2
  clear cB_0 fB_0 cB_1 fB_1 cB_2 fB_2
  replace KB : Hid (w3.heap[w.heap.size + 1]? = some (.cells #[.int .i64 x, .int .i64 y, .int .i64 z] 23 (0, 0))) := blk_below (by repeat (first | (with_reducible first | exact KB.out | apply blk_drewN | apply blk_drew | apply blk_alloc) | exact KB.out)) hb3
  have cB_0 := blk_cell KB.out 0
  have fB_0 := blk_frozen KB.out 0
  have cB_1 := blk_cell KB.out 1
  have fB_1 := blk_frozen KB.out 1
  have cB_2 := blk_cell KB.out 2
  have fB_2 := blk_frozen KB.out 2
  clear cC_0 fC_0 cC_1 fC_1 cC_2 fC_2
  replace KC : Hid (w3.heap[w.heap.size + 1 + 1]? = some (.cells #[.int .i64 s, .int .i64 t, .int .i64 u] 23 (0, 0))) := blk_below (by repeat (first | (with_reducible first | exact KC.out | apply blk_drewN | apply blk_drew | apply blk_alloc) | exact KC.out)) hb3
  have cC_0 := blk_cell KC.out 0
  have fC_0 := blk_frozen KC.out 0
  have cC_1 := blk_cell KC.out 1
  have fC_1 := blk_frozen KC.out 1
  have cC_2 := blk_cell KC.out 2
  have fC_2 := blk_frozen KC.out 2
  have cP_0 := blk_cell KP.out 0
  have fP_0 := blk_frozen KP.out 0
  have cP_1 := blk_cell KP.out 1
  have fP_1 := blk_frozen KP.out 1
  have cP_2 := blk_cell KP.out 2
  have fP_2 := blk_frozen KP.out 2
  replace HB : Hid (Below w.heap.size w w3) := below_step (by repeat (first | (with_reducible first | exact HB.out | exact Below.refl _ _ | apply below_alloc | apply bdr | apply below_drew1) | (refine below_set ?_ (by first | omega | (simp; done) | (simp; omega))) | exact HB.out | exact Below.refl _ _)) hb3
  clear hb3
  replace hlA := blk_lt KA.out
  replace hlB := blk_lt KB.out
  replace hlC := blk_lt KC.out
  have hlP := blk_lt KP.out
  go_wp2_with fail
  refine (unit_Text.calls _ _ _ _ _ _ ((HT.out.below HB.out).alloc _) (textF_ok a b c H.out)).mono ?_
  rintro e w4 ⟨rfl, hb4⟩
  have KQ : Hid (w4.heap[w3.heap.size]? = some (.cells #[.int .i64 p1, .int .i64 p2, .int .i64 p3] 23 (0, 0))) := blk_below (blk_new w3 (.cells #[.int .i64 p1, .int .i64 p2, .int .i64 p3] 23)) hb4
  clear cA_0 fA_0 cA_1 fA_1 cA_2 fA_2
  replace KA : Hid (w4.heap[w.heap.size]? = some (.cells #[.int .i64 a, .int .i64 b, .int .i64 c] 23 (0, 0))) := blk_below (by repeat (first | (with_reducible first | exact KA.out | apply blk_drewN | apply blk_drew | apply blk_alloc) | exact KA.out)) hb4
  have cA_0 := blk_cell KA.out 0
  have fA_0 := blk_frozen KA.out 0
  have cA_1 := blk_cell KA.out 1
  have fA_1 := blk_frozen KA.out 1
  have cA_2 := blk_cell KA.out 2
  have fA_2 := blk_frozen KA.out 2
  clear cB_0 fB_0 cB_1 fB_1 cB_2 fB_2
  replace KB : Hid (w4.heap[w.heap.size + 1]? = some (.cells #[.int .i64 x, .int .i64 y, .int .i64 z] 23 (0, 0))) := blk_below (by repeat (first | (with_reducible first | exact KB.out | apply blk_drewN | apply blk_drew | apply blk_alloc) | exact KB.out)) hb4
  have cB_0 := blk_cell KB.out 0
  have fB_0 := blk_frozen KB.out 0
  have cB_1 := blk_cell KB.out 1
  have fB_1 := blk_frozen KB.out 1
  have cB_2 := blk_cell KB.out 2
  have fB_2 := blk_frozen KB.out 2
  clear cC_0 fC_0 cC_1 fC_1 cC_2 fC_2
  replace KC : Hid (w4.heap[w.heap.size + 1 + 1]? = some (.cells #[.int .i64 s, .int .i64 t, .int .i64 u] 23 (0, 0))) := blk_below (by repeat (first | (with_reducible first | exact KC.out | apply blk_drewN | apply blk_drew | apply blk_alloc) | exact KC.out)) hb4
  have cC_0 := blk_cell KC.out 0
  have fC_0 := blk_frozen KC.out 0
  have cC_1 := blk_cell KC.out 1
  have fC_1 := blk_frozen KC.out 1
  have cC_2 := blk_cell KC.out 2
  have fC_2 := blk_frozen KC.out 2
  clear cP_0 fP_0 cP_1 fP_1 cP_2 fP_2
  replace KP : Hid (w4.heap[w2.heap.size]? = some (.cells #[.int .i64 p1, .int .i64 p2, .int .i64 p3] 23 (0, 0))) := blk_below (by repeat (first | (with_reducible first | exact KP.out | apply blk_drewN | apply blk_drew | apply blk_alloc) | exact KP.out)) hb4
  have cP_0 := blk_cell KP.out 0
  have fP_0 := blk_frozen KP.out 0
  have cP_1 := blk_cell KP.out 1
  have fP_1 := blk_frozen KP.out 1
  have cP_2 := blk_cell KP.out 2
  have fP_2 := blk_frozen KP.out 2
  have cQ_0 := blk_cell KQ.out 0
  have fQ_0 := blk_frozen KQ.out 0
  have cQ_1 := blk_cell KQ.out 1
  have fQ_1 := blk_frozen KQ.out 1
  have cQ_2 := blk_cell KQ.out 2
  have fQ_2 := blk_frozen KQ.out 2
  replace HB : Hid (Below w.heap.size w w4) := below_step (by repeat (first | (with_reducible first | exact HB.out | exact Below.refl _ _ | apply below_alloc | apply bdr | apply below_drew1) | (refine below_set ?_ (by first | omega | (simp; done) | (simp; omega))) | exact HB.out | exact Below.refl _ _)) hb4
  clear hb4
  replace hlA := blk_lt KA.out
  replace hlB := blk_lt KB.out
  replace hlC := blk_lt KC.out
  replace hlP := blk_lt KP.out
  have hlQ := blk_lt KQ.out
  go_wp2_with fail
  clear cQ_0 fQ_0 cQ_1 fQ_1 cQ_2 fQ_2
  clear hlQ KQ
  refine (unit_Mul.calls _ _ _ _ _ _ _ _ _ _ _ (mulF_one a b c H.out)).mono ?_
  rintro e w5 ⟨rfl, hb5⟩
  clear cA_0 fA_0 cA_1 fA_1 cA_2 fA_2
  replace KA : Hid (w5.heap[w.heap.size]? = some (.cells #[.int .i64 a, .int .i64 b, .int .i64 c] 23 (0, 0))) := blk_below (by repeat (first | (with_reducible first | exact KA.out | apply blk_drewN | apply blk_drew | apply blk_alloc) | exact KA.out)) hb5
  have cA_0 := blk_cell KA.out 0
  have fA_0 := blk_frozen KA.out 0
  have cA_1 := blk_cell KA.out 1
  have fA_1 := blk_frozen KA.out 1
  have cA_2 := blk_cell KA.out 2
  have fA_2 := blk_frozen KA.out 2
  clear cB_0 fB_0 cB_1 fB_1 cB_2 fB_2
  replace KB : Hid (w5.heap[w.heap.size + 1]? = some (.cells #[.int .i64 x, .int .i64 y, .int .i64 z] 23 (0, 0))) := blk_below (by repeat (first | (with_reducible first | exact KB.out | apply blk_drewN | apply blk_drew | apply blk_alloc) | exact KB.out)) hb5
  have cB_0 := blk_cell KB.out 0
  have fB_0 := blk_frozen KB.out 0
  have cB_1 := blk_cell KB.out 1
  have fB_1 := blk_frozen KB.out 1
  have cB_2 := blk_cell KB.out 2
  have fB_2 := blk_frozen KB.out 2
  clear cC_0 fC_0 cC_1 fC_1 cC_2 fC_2
  replace KC : Hid (w5.heap[w.heap.size + 1 + 1]? = some (.cells #[.int .i64 s, .int .i64 t, .int .i64 u] 23 (0, 0))) := blk_below (by repeat (first | (with_reducible first | exact KC.out | apply blk_drewN | apply blk_drew | apply blk_alloc) | exact KC.out)) hb5
  have cC_0 := blk_cell KC.out 0
  have fC_0 := blk_frozen KC.out 0
  have cC_1 := blk_cell KC.out 1
  have fC_1 := blk_frozen KC.out 1
  have cC_2 := blk_cell KC.out 2
  have fC_2 := blk_frozen KC.out 2
  clear cP_0 fP_0 cP_1 fP_1 cP_2 fP_2
  replace KP : Hid (w5.heap[w2.heap.size]? = some (.cells #[.int .i64 p1, .int .i64 p2, .int .i64 p3] 23 (0, 0))) := blk_below (by repeat (first | (with_reducible first | exact KP.out | apply blk_drewN | apply blk_drew | apply blk_alloc) | exact KP.out)) hb5
  have cP_0 := blk_cell KP.out 0
  have fP_0 := blk_frozen KP.out 0
  have cP_1 := blk_cell KP.out 1
  have fP_1 := blk_frozen KP.out 1
  have cP_2 := blk_cell KP.out 2
  have fP_2 := blk_frozen KP.out 2
  replace HB : Hid (Below w.heap.size w w5) := below_step (by repeat (first | (with_reducible first | exact HB.out | exact Below.refl _ _ | apply below_alloc | apply bdr | apply below_drew1) | (refine below_set ?_ (by first | omega | (simp; done) | (simp; omega))) | exact HB.out | exact Below.refl _ _)) hb5
  clear hb5
  replace hlA := blk_lt KA.out
  replace hlB := blk_lt KB.out
  replace hlC := blk_lt KC.out
  replace hlP := blk_lt KP.out
  go_wp2_with fail
  refine (unit_Power.calls _ _ _ _ _ _ _ _ _ (powF_back a b c H.out)).mono ?_
  rintro e w6 ⟨rfl, hb6⟩
  have KS : Hid (w6.heap[w5.heap.size]? = some (.cells #[.int .i64 a, .int .i64 b, .int .i64 c] 23 (0, 0))) := blk_below (blk_new w5 (.cells #[.int .i64 a, .int .i64 b, .int .i64 c] 23)) hb6
  clear cA_0 fA_0 cA_1 fA_1 cA_2 fA_2
  replace KA : Hid (w6.heap[w.heap.size]? = some (.cells #[.int .i64 a, .int .i64 b, .int .i64 c] 23 (0, 0))) := blk_below (by repeat (first | (with_reducible first | exact KA.out | apply blk_drewN | apply blk_drew | apply blk_alloc) | exact KA.out)) hb6
  have cA_0 := blk_cell KA.out 0
  have fA_0 := blk_frozen KA.out 0
  have cA_1 := blk_cell KA.out 1
  have fA_1 := blk_frozen KA.out 1
  have cA_2 := blk_cell KA.out 2
  have fA_2 := blk_frozen KA.out 2
  clear cB_0 fB_0 cB_1 fB_1 cB_2 fB_2
  replace KB : Hid (w6.heap[w.heap.size + 1]? = some (.cells #[.int .i64 x, .int .i64 y, .int .i64 z] 23 (0, 0))) := blk_below (by repeat (first | (with_reducible first | exact KB.out | apply blk_drewN | apply blk_drew | apply blk_alloc) | exact KB.out)) hb6
  have cB_0 := blk_cell KB.out 0
  have fB_0 := blk_frozen KB.out 0
  have cB_1 := blk_cell KB.out 1
  have fB_1 := blk_frozen KB.out 1
  have cB_2 := blk_cell KB.out 2
  have fB_2 := blk_frozen KB.out 2
  clear cC_0 fC_0 cC_1 fC_1 cC_2 fC_2
  replace KC : Hid (w6.heap[w.heap.size + 1 + 1]? = some (.cells #[.int .i64 s, .int .i64 t, .int .i64 u] 23 (0, 0))) := blk_below (by repeat (first | (with_reducible first | exact KC.out | apply blk_drewN | apply blk_drew | apply blk_alloc) | exact KC.out)) hb6
  have cC_0 := blk_cell KC.out 0
  have fC_0 := blk_frozen KC.out 0
  have cC_1 := blk_cell KC.out 1
  have fC_1 := blk_frozen KC.out 1
  have cC_2 := blk_cell KC.out 2
  have fC_2 := blk_frozen KC.out 2
  clear cP_0 fP_0 cP_1 fP_1 cP_2 fP_2
  replace KP : Hid (w6.heap[w2.heap.size]? = some (.cells #[.int .i64 p1, .int .i64 p2, .int .i64 p3] 23 (0, 0))) := blk_below (by repeat (first | (with_reducible first | exact KP.out | apply blk_drewN | apply blk_drew | apply blk_alloc) | exact KP.out)) hb6
  have cP_0 := blk_cell KP.out 0
  have fP_0 := blk_frozen KP.out 0
  have cP_1 := blk_cell KP.out 1
  have fP_1 := blk_frozen KP.out 1
  have cP_2 := blk_cell KP.out 2
  have fP_2 := blk_frozen KP.out 2
  have cS_0 := blk_cell KS.out 0
  have fS_0 := blk_frozen KS.out 0
  have cS_1 := blk_cell KS.out 1
  have fS_1 := blk_frozen KS.out 1
  have cS_2 := blk_cell KS.out 2
  have fS_2 := blk_frozen KS.out 2
  replace HB : Hid (Below w.heap.size w w6) := below_step (by repeat (first | (with_reducible first | exact HB.out | exact Below.refl _ _ | apply below_alloc | apply bdr | apply below_drew1) | (refine below_set ?_ (by first | omega | (simp; done) | (simp; omega))) | exact HB.out | exact Below.refl _ _)) hb6
  clear hb6
  replace hlA := blk_lt KA.out
  replace hlB := blk_lt KB.out
  replace hlC := blk_lt KC.out
  replace hlP := blk_lt KP.out
  have hlS := blk_lt KS.out
  go_wp2_with fail
  refine (unit_Mul.calls _ _ _ _ _ _ _ _ _ _ _ (mulF_back a b c H.out)).mono ?_
  rintro e w7 ⟨rfl, hb7⟩
  have KR : Hid (w7.heap[w6.heap.size]? = some (.cells #[.int .i64 (-a), .int .i64 (-b), .int .i64 (-c)] 23 (0, 0))) := blk_below (blk_new w6 (.cells #[.int .i64 (-a), .int .i64 (-b), .int .i64 (-c)] 23)) hb7
  clear cA_0 fA_0 cA_1 fA_1 cA_2 fA_2
  replace KA : Hid (w7.heap[w.heap.size]? = some (.cells #[.int .i64 a, .int .i64 b, .int .i64 c] 23 (0, 0))) := blk_below (by repeat (first | (with_reducible first | exact KA.out | apply blk_drewN | apply blk_drew | apply blk_alloc) | exact KA.out)) hb7
  have cA_0 := blk_cell KA.out 0
  have fA_0 := blk_frozen KA.out 0
  have cA_1 := blk_cell KA.out 1
  have fA_1 := blk_frozen KA.out 1
  have cA_2 := blk_cell KA.out 2
  have fA_2 := blk_frozen KA.out 2
  clear cB_0 fB_0 cB_1 fB_1 cB_2 fB_2
  replace KB : Hid (w7.heap[w.heap.size + 1]? = some (.cells #[.int .i64 x, .int .i64 y, .int .i64 z] 23 (0, 0))) := blk_below (by repeat (first | (with_reducible first | exact KB.out | apply blk_drewN | apply blk_drew | apply blk_alloc) | exact KB.out)) hb7
  have cB_0 := blk_cell KB.out 0
  have fB_0 := blk_frozen KB.out 0
  have cB_1 := blk_cell KB.out 1
  have fB_1 := blk_frozen KB.out 1
  have cB_2 := blk_cell KB.out 2
  have fB_2 := blk_frozen KB.out 2
  clear cC_0 fC_0 cC_1 fC_1 cC_2 fC_2
  replace KC : Hid (w7.heap[w.heap.size + 1 + 1]? = some (.cells #[.int .i64 s, .int .i64 t, .int .i64 u] 23 (0, 0))) := blk_below (by repeat (first | (with_reducible first | exact KC.out | apply blk_drewN | apply blk_drew | apply blk_alloc) | exact KC.out)) hb7
  have cC_0 := blk_cell KC.out 0
  have fC_0 := blk_frozen KC.out 0
  have cC_1 := blk_cell KC.out 1
  have fC_1 := blk_frozen KC.out 1
  have cC_2 := blk_cell KC.out 2
  have fC_2 := blk_frozen KC.out 2
  clear cP_0 fP_0 cP_1 fP_1 cP_2 fP_2
  replace KP : Hid (w7.heap[w2.heap.size]? = some (.cells #[.int .i64 p1, .int .i64 p2, .int .i64 p3] 23 (0, 0))) := blk_below (by repeat (first | (with_reducible first | exact KP.out | apply blk_drewN | apply blk_drew | apply blk_alloc) | exact KP.out)) hb7
  have cP_0 := blk_cell KP.out 0
  have fP_0 := blk_frozen KP.out 0
  have cP_1 := blk_cell KP.out 1
  have fP_1 := blk_frozen KP.out 1
  have cP_2 := blk_cell KP.out 2
  have fP_2 := blk_frozen KP.out 2
  clear cS_0 fS_0 cS_1 fS_1 cS_2 fS_2
  replace KS : Hid (w7.heap[w5.heap.size]? = some (.cells #[.int .i64 a, .int .i64 b, .int .i64 c] 23 (0, 0))) := blk_below (by repeat (first | (with_reducible first | exact KS.out | apply blk_drewN | apply blk_drew | apply blk_alloc) | exact KS.out)) hb7
  have cS_0 := blk_cell KS.out 0
  have fS_0 := blk_frozen KS.out 0
  have cS_1 := blk_cell KS.out 1
  have fS_1 := blk_frozen KS.out 1
  have cS_2 := blk_cell KS.out 2
  have fS_2 := blk_frozen KS.out 2
  have cR_0 := blk_cell KR.out 0
  have fR_0 := blk_frozen KR.out 0
  have cR_1 := blk_cell KR.out 1
  have fR_1 := blk_frozen KR.out 1
  have cR_2 := blk_cell KR.out 2
  have fR_2 := blk_frozen KR.out 2
  replace HB : Hid (Below w.heap.size w w7) := below_step (by repeat (first | (with_reducible first | exact HB.out | exact Below.refl _ _ | apply below_alloc | apply bdr | apply below_drew1) | (refine below_set ?_ (by first | omega | (simp; done) | (simp; omega))) | exact HB.out | exact Below.refl _ _)) hb7
  clear hb7
  replace hlA := blk_lt KA.out
  replace hlB := blk_lt KB.out
  replace hlC := blk_lt KC.out
  replace hlP := blk_lt KP.out
  replace hlS := blk_lt KS.out
  have hlR := blk_lt KR.out
  go_wp2_with fail
  refine (unit_Mul.calls _ _ _ _ _ _ _ _ _ _ _ M3.out).mono ?_
  rintro e w8 ⟨rfl, hb8⟩
  have KO : Hid (w8.heap[w7.heap.size]? = some (.cells #[.int .i64 0, .int .i64 0, .int .i64 0] 23 (0, 0))) := blk_below (blk_new w7 (.cells #[.int .i64 0, .int .i64 0, .int .i64 0] 23)) hb8
  clear cA_0 fA_0 cA_1 fA_1 cA_2 fA_2
  replace KA : Hid (w8.heap[w.heap.size]? = some (.cells #[.int .i64 a, .int .i64 b, .int .i64 c] 23 (0, 0))) := blk_below (by repeat (first | (with_reducible first | exact KA.out | apply blk_drewN | apply blk_drew | apply blk_alloc) | exact KA.out)) hb8
  have cA_0 := blk_cell KA.out 0
  have fA_0 := blk_frozen KA.out 0
  have cA_1 := blk_cell KA.out 1
  have fA_1 := blk_frozen KA.out 1
  have cA_2 := blk_cell KA.out 2
  have fA_2 := blk_frozen KA.out 2
  clear cB_0 fB_0 cB_1 fB_1 cB_2 fB_2
  replace KB : Hid (w8.heap[w.heap.size + 1]? = some (.cells #[.int .i64 x, .int .i64 y, .int .i64 z] 23 (0, 0))) := blk_below (by repeat (first | (with_reducible first | exact KB.out | apply blk_drewN | apply blk_drew | apply blk_alloc) | exact KB.out)) hb8
  have cB_0 := blk_cell KB.out 0
  have fB_0 := blk_frozen KB.out 0
  have cB_1 := blk_cell KB.out 1
  have fB_1 := blk_frozen KB.out 1
  have cB_2 := blk_cell KB.out 2
  have fB_2 := blk_frozen KB.out 2
  clear cC_0 fC_0 cC_1 fC_1 cC_2 fC_2
  replace KC : Hid (w8.heap[w.heap.size + 1 + 1]? = some (.cells #[.int .i64 s, .int .i64 t, .int .i64 u] 23 (0, 0))) := blk_below (by repeat (first | (with_reducible first | exact KC.out | apply blk_drewN | apply blk_drew | apply blk_alloc) | exact KC.out)) hb8
  have cC_0 := blk_cell KC.out 0
  have fC_0 := blk_frozen KC.out 0
  have cC_1 := blk_cell KC.out 1
  have fC_1 := blk_frozen KC.out 1
  have cC_2 := blk_cell KC.out 2
  have fC_2 := blk_frozen KC.out 2
  clear cP_0 fP_0 cP_1 fP_1 cP_2 fP_2
  replace KP : Hid (w8.heap[w2.heap.size]? = some (.cells #[.int .i64 p1, .int .i64 p2, .int .i64 p3] 23 (0, 0))) := blk_below (by repeat (first | (with_reducible first | exact KP.out | apply blk_drewN | apply blk_drew | apply blk_alloc) | exact KP.out)) hb8
  have cP_0 := blk_cell KP.out 0
  have fP_0 := blk_frozen KP.out 0
  have cP_1 := blk_cell KP.out 1
  have fP_1 := blk_frozen KP.out 1
  have cP_2 := blk_cell KP.out 2
  have fP_2 := blk_frozen KP.out 2
  clear cS_0 fS_0 cS_1 fS_1 cS_2 fS_2
  replace KS : Hid (w8.heap[w5.heap.size]? = some (.cells #[.int .i64 a, .int .i64 b, .int .i64 c] 23 (0, 0))) := blk_below (by repeat (first | (with_reducible first | exact KS.out | apply blk_drewN | apply blk_drew | apply blk_alloc) | exact KS.out)) hb8
  have cS_0 := blk_cell KS.out 0
  have fS_0 := blk_frozen KS.out 0
  have cS_1 := blk_cell KS.out 1
  have fS_1 := blk_frozen KS.out 1
  have cS_2 := blk_cell KS.out 2
  have fS_2 := blk_frozen KS.out 2
  clear cR_0 fR_0 cR_1 fR_1 cR_2 fR_2
  replace KR : Hid (w8.heap[w6.heap.size]? = some (.cells #[.int .i64 (-a), .int .i64 (-b), .int .i64 (-c)] 23 (0, 0))) := blk_below (by repeat (first | (with_reducible first | exact KR.out | apply blk_drewN | apply blk_drew | apply blk_alloc) | exact KR.out)) hb8
  have cR_0 := blk_cell KR.out 0
  have fR_0 := blk_frozen KR.out 0
  have cR_1 := blk_cell KR.out 1
  have fR_1 := blk_frozen KR.out 1
  have cR_2 := blk_cell KR.out 2
  have fR_2 := blk_frozen KR.out 2
  have cO_0 := blk_cell KO.out 0
  have fO_0 := blk_frozen KO.out 0
  have cO_1 := blk_cell KO.out 1
  have fO_1 := blk_frozen KO.out 1
  have cO_2 := blk_cell KO.out 2
  have fO_2 := blk_frozen KO.out 2
  replace HB : Hid (Below w.heap.size w w8) := below_step (by repeat (first | (with_reducible first | exact HB.out | exact Below.refl _ _ | apply below_alloc | apply bdr | apply below_drew1) | (refine below_set ?_ (by first | omega | (simp; done) | (simp; omega))) | exact HB.out | exact Below.refl _ _)) hb8
  clear hb8
  replace hlA := blk_lt KA.out
  replace hlB := blk_lt KB.out
  replace hlC := blk_lt KC.out
  replace hlP := blk_lt KP.out
  replace hlS := blk_lt KS.out
  replace hlR := blk_lt KR.out
  have hlO := blk_lt KO.out
  go_wp2_with fail
  clear cS_0 fS_0 cS_1 fS_1 cS_2 fS_2
  clear hlS KS
  clear cR_0 fR_0 cR_1 fR_1 cR_2 fR_2
  clear hlR KR
  clear cO_0 fO_0 cO_1 fO_1 cO_2 fO_2
  clear hlO KO
  clear cB_0 fB_0 cB_1 fB_1 cB_2 fB_2
  clear hlB KB
  refine (unit_Mul.calls _ _ _ _ _ _ _ _ _ _ _ M4.out).mono ?_
  rintro e w9 ⟨rfl, hb9⟩
  have KD : Hid (w9.heap[w8.heap.size]? = some (.cells #[.int .i64 q1, .int .i64 q2, .int .i64 q3] 23 (0, 0))) := blk_below (blk_new w8 (.cells #[.int .i64 q1, .int .i64 q2, .int .i64 q3] 23)) hb9
  clear cA_0 fA_0 cA_1 fA_1 cA_2 fA_2
  replace KA : Hid (w9.heap[w.heap.size]? = some (.cells #[.int .i64 a, .int .i64 b, .int .i64 c] 23 (0, 0))) := blk_below (by repeat (first | (with_reducible first | exact KA.out | apply blk_drewN | apply blk_drew | apply blk_alloc) | exact KA.out)) hb9
  have cA_0 := blk_cell KA.out 0
  have fA_0 := blk_frozen KA.out 0
  have cA_1 := blk_cell KA.out 1
  have fA_1 := blk_frozen KA.out 1
  have cA_2 := blk_cell KA.out 2
  have fA_2 := blk_frozen KA.out 2
  clear cC_0 fC_0 cC_1 fC_1 cC_2 fC_2
  replace KC : Hid (w9.heap[w.heap.size + 1 + 1]? = some (.cells #[.int .i64 s, .int .i64 t, .int .i64 u] 23 (0, 0))) := blk_below (by repeat (first | (with_reducible first | exact KC.out | apply blk_drewN | apply blk_drew | apply blk_alloc) | exact KC.out)) hb9
  have cC_0 := blk_cell KC.out 0
  have fC_0 := blk_frozen KC.out 0
  have cC_1 := blk_cell KC.out 1
  have fC_1 := blk_frozen KC.out 1
  have cC_2 := blk_cell KC.out 2
  have fC_2 := blk_frozen KC.out 2
  clear cP_0 fP_0 cP_1 fP_1 cP_2 fP_2
  replace KP : Hid (w9.heap[w2.heap.size]? = some (.cells #[.int .i64 p1, .int .i64 p2, .int .i64 p3] 23 (0, 0))) := blk_below (by repeat (first | (with_reducible first | exact KP.out | apply blk_drewN | apply blk_drew | apply blk_alloc) | exact KP.out)) hb9
  have cP_0 := blk_cell KP.out 0
  have fP_0 := blk_frozen KP.out 0
  have cP_1 := blk_cell KP.out 1
  have fP_1 := blk_frozen KP.out 1
  have cP_2 := blk_cell KP.out 2
  have fP_2 := blk_frozen KP.out 2
  have cD_0 := blk_cell KD.out 0
  have fD_0 := blk_frozen KD.out 0
  have cD_1 := blk_cell KD.out 1
  have fD_1 := blk_frozen KD.out 1
  have cD_2 := blk_cell KD.out 2
  have fD_2 := blk_frozen KD.out 2
  replace HB : Hid (Below w.heap.size w w9) := below_step (by repeat (first | (with_reducible first | exact HB.out | exact Below.refl _ _ | apply below_alloc | apply bdr | apply below_drew1) | (refine below_set ?_ (by first | omega | (simp; done) | (simp; omega))) | exact HB.out | exact Below.refl _ _)) hb9
  clear hb9
  replace hlA := blk_lt KA.out
  replace hlC := blk_lt KC.out
  replace hlP := blk_lt KP.out
  have hlD := blk_lt KD.out
  go_wp2_with fail
  clear cP_0 fP_0 cP_1 fP_1 cP_2 fP_2
  clear hlP KP
  clear cC_0 fC_0 cC_1 fC_1 cC_2 fC_2
  clear hlC KC
  refine (unit_Mul.calls _ _ _ _ _ _ _ _ _ _ _ M5.out).mono ?_
  rintro e w10 ⟨rfl, hb10⟩
  have KX : Hid (w10.heap[w9.heap.size]? = some (.cells #[.int .i64 r1, .int .i64 r2, .int .i64 r3] 23 (0, 0))) := blk_below (blk_new w9 (.cells #[.int .i64 r1, .int .i64 r2, .int .i64 r3] 23)) hb10
  clear cA_0 fA_0 cA_1 fA_1 cA_2 fA_2
  replace KA : Hid (w10.heap[w.heap.size]? = some (.cells #[.int .i64 a, .int .i64 b, .int .i64 c] 23 (0, 0))) := blk_below (by repeat (first | (with_reducible first | exact KA.out | apply blk_drewN | apply blk_drew | apply blk_alloc) | exact KA.out)) hb10
  have cA_0 := blk_cell KA.out 0
  have fA_0 := blk_frozen KA.out 0
  have cA_1 := blk_cell KA.out 1
  have fA_1 := blk_frozen KA.out 1
  have cA_2 := blk_cell KA.out 2
  have fA_2 := blk_frozen KA.out 2
  clear cD_0 fD_0 cD_1 fD_1 cD_2 fD_2
  replace KD : Hid (w10.heap[w8.heap.size]? = some (.cells #[.int .i64 q1, .int .i64 q2, .int .i64 q3] 23 (0, 0))) := blk_below (by repeat (first | (with_reducible first | exact KD.out | apply blk_drewN | apply blk_drew | apply blk_alloc) | exact KD.out)) hb10
  have cD_0 := blk_cell KD.out 0
  have fD_0 := blk_frozen KD.out 0
  have cD_1 := blk_cell KD.out 1
  have fD_1 := blk_frozen KD.out 1
  have cD_2 := blk_cell KD.out 2
  have fD_2 := blk_frozen KD.out 2
  have cX_0 := blk_cell KX.out 0
  have fX_0 := blk_frozen KX.out 0
  have cX_1 := blk_cell KX.out 1
  have fX_1 := blk_frozen KX.out 1
  have cX_2 := blk_cell KX.out 2
  have fX_2 := blk_frozen KX.out 2
  replace HB : Hid (Below w.heap.size w w10) := below_step (by repeat (first | (with_reducible first | exact HB.out | exact Below.refl _ _ | apply below_alloc | apply bdr | apply below_drew1) | (refine below_set ?_ (by first | omega | (simp; done) | (simp; omega))) | exact HB.out | exact Below.refl _ _)) hb10
  clear hb10
  replace hlA := blk_lt KA.out
  replace hlD := blk_lt KD.out
  have hlX := blk_lt KX.out
  go_wp2_with fail
  go_ret
  exact ⟨rfl, below_alloc HB.out _⟩

set_option maxRecDepth 100000 in
set_option maxHeartbeats 4000000 in
theorem group_j (a b c x y z s t u : Int) (w : World) (hT : Tabs w) (p1 p2 p3 q1 q2 q3 r1 r2 r3 s1 s2 s3 e j k l : Int) (h : okU a b c) (m1 : unit_Mul.f a b c x y z = some (p1, p2, p3, 0)) (m3 : unit_Mul.f x y z s t u = some (q1, q2, q3, j)) (m4 : unit_Mul.f p1 p2 p3 s t u = some (r1, r2, r3, k)) (m5 : unit_Mul.f a b c q1 q2 q3 = some (s1, s2, s3, l)) (zj : ¬ j = 0) :
    Calls Tryd.prog 4 #[.agg #[.int .i64 a, .int .i64 b, .int .i64 c], .agg #[.int .i64 x, .int .i64 y, .int .i64 z], .agg #[.int .i64 s, .int .i64 t, .int .i64 u]] w fun e w' => e = .returned (.bool true) ∧ Below w.heap.size w w' := by
  have HT := Lib.hid hT
  clear hT
  have H := Lib.hid h
  clear h
  have M1 := Lib.hid m1
  clear m1
  have M3 := Lib.hid m3
  clear m3
  have M4 := Lib.hid m4
  clear m4
  have M5 := Lib.hid m5
  clear m5
  have zj1 : (j == 0) = false := by simpa using zj
  have zj2 : (j != 0) = true := by simpa using zj
  have h3 := alloc3_blk w (.cells #[.int .i64 a, .int .i64 b, .int .i64 c] 23) (.cells #[.int .i64 x, .int .i64 y, .int .i64 z] 23) (.cells #[.int .i64 s, .int .i64 t, .int .i64 u] 23)
  go_enter Tryd.func4, Tryd.ntmps4
  go_wp2_with fail
  refine (head.calls true _ (((HT.out.alloc _).alloc _).alloc _) rfl).mono ?_
  rintro e w1 ⟨rfl, hb1⟩
  have KA : Hid (w1.heap[w.heap.size]? = some (.cells #[.int .i64 a, .int .i64 b, .int .i64 c] 23 (0, 0))) := blk_below h3.1 hb1
  have KB : Hid (w1.heap[w.heap.size + 1]? = some (.cells #[.int .i64 x, .int .i64 y, .int .i64 z] 23 (0, 0))) := blk_below h3.2.1 hb1
  have KC : Hid (w1.heap[w.heap.size + 1 + 1]? = some (.cells #[.int .i64 s, .int .i64 t, .int .i64 u] 23 (0, 0))) := blk_below h3.2.2 hb1
  have cA_0 := blk_cell KA.out 0
  have fA_0 := blk_frozen KA.out 0
  have cA_1 := blk_cell KA.out 1
  have fA_1 := blk_frozen KA.out 1
  have cA_2 := blk_cell KA.out 2
  have fA_2 := blk_frozen KA.out 2
  have cB_0 := blk_cell KB.out 0
  have fB_0 := blk_frozen KB.out 0
  have cB_1 := blk_cell KB.out 1
  have fB_1 := blk_frozen KB.out 1
  have cB_2 := blk_cell KB.out 2
  have fB_2 := blk_frozen KB.out 2
  have cC_0 := blk_cell KC.out 0
  have fC_0 := blk_frozen KC.out 0
  have cC_1 := blk_cell KC.out 1
  have fC_1 := blk_frozen KC.out 1
  have cC_2 := blk_cell KC.out 2
  have fC_2 := blk_frozen KC.out 2
  have HB : Hid (Below w.heap.size w w1) := below_step (by repeat (first | (with_reducible first | exact HB.out | exact Below.refl _ _ | apply below_alloc | apply bdr | apply below_drew1) | (refine below_set ?_ (by first | omega | (simp; done) | (simp; omega))) | exact HB.out | exact Below.refl _ _)) hb1
  clear hb1
  clear h3
  have hlA := blk_lt KA.out
  have hlB := blk_lt KB.out
  have hlC := blk_lt KC.out
  go_wp2_with fail
  refine (unit_Mul.calls _ _ _ _ _ _ _ _ _ _ _ M1.out).mono ?_
  rintro e w2 ⟨rfl, hb2⟩
  clear cA_0 fA_0 cA_1 fA_1 cA_2 fA_2
  replace KA : Hid (w2.heap[w.heap.size]? = some (.cells #[.int .i64 a, .int .i64 b, .int .i64 c] 23 (0, 0))) := blk_below (by repeat (first | (with_reducible first | exact KA.out | apply blk_drewN | apply blk_drew | apply blk_alloc) | exact KA.out)) hb2
  have cA_0 := blk_cell KA.out 0
  have fA_0 := blk_frozen KA.out 0
  have cA_1 := blk_cell KA.out 1
  have fA_1 := blk_frozen KA.out 1
  have cA_2 := blk_cell KA.out 2
  have fA_2 := blk_frozen KA.out 2
  clear cB_0 fB_0 cB_1 fB_1 cB_2 fB_2
  replace KB : Hid (w2.heap[w.heap.size + 1]? = some (.cells #[.int .i64 x, .int .i64 y, .int .i64 z] 23 (0, 0))) := blk_below (by repeat (first | (with_reducible first | exact KB.out | apply blk_drewN | apply blk_drew | apply blk_alloc) | exact KB.out)) hb2
  have cB_0 := blk_cell KB.out 0
  have fB_0 := blk_frozen KB.out 0
  have cB_1 := blk_cell KB.out 1
  have fB_1 := blk_frozen KB.out 1
  have cB_2 := blk_cell KB.out 2
  have fB_2 := blk_frozen KB.out 2
  clear cC_0 fC_0 cC_1 fC_1 cC_2 fC_2
  replace KC : Hid (w2.heap[w.heap.size + 1 + 1]? = some (.cells #[.int .i64 s, .int .i64 t, .int .i64 u] 23 (0, 0))) := blk_below (by repeat (first | (with_reducible first | exact KC.out | apply blk_drewN | apply blk_drew | apply blk_alloc) | exact KC.out)) hb2
  have cC_0 := blk_cell KC.out 0
  have fC_0 := blk_frozen KC.out 0
  have cC_1 := blk_cell KC.out 1
  have fC_1 := blk_frozen KC.out 1
  have cC_2 := blk_cell KC.out 2
  have fC_2 := blk_frozen KC.out 2
  replace HB : Hid (Below w.heap.size w w2) := below_step (by repeat (first | (with_reducible first | exact HB.out | exact Below.refl _ _ | apply below_alloc | apply bdr | apply below_drew1) | (refine below_set ?_ (by first | omega | (simp; done) | (simp; omega))) | exact HB.out | exact Below.refl _ _)) hb2
  clear hb2
  replace hlA := blk_lt KA.out
  replace hlB := blk_lt KB.out
  replace hlC := blk_lt KC.out
  go_wp2_with fail
  refine (unit_Mul.calls _ _ _ _ _ _ _ _ _ _ _ ((mulF_comm a b c x y z).trans M1.out)).mono ?_
  rintro e w3 ⟨rfl, hb3⟩
  have KP : Hid (w3.heap[w2.heap.size]? = some (.cells #[.int .i64 p1, .int .i64 p2, .int .i64 p3] 23 (0, 0))) := blk_below (blk_new w2 (.cells #[.int .i64 p1, .int .i64 p2, .int .i64 p3] 23)) hb3
  clear cA_0 fA_0 cA_1 fA_1 cA_2 fA_2
  replace KA : Hid (w3.heap[w.heap.size]? = some (.cells #[.int .i64 a, .int .i64 b, .int .i64 c] 23 (0, 0))) := blk_below (by repeat (first | (with_reducible first | exact KA.out | apply blk_drewN | apply blk_drew | apply blk_alloc) | exact KA.out)) hb3
  have cA_0 := blk_cell KA.out 0
  have fA_0 := blk_frozen KA.out 0
  have cA_1 := blk_cell KA.out 1
  have fA_1 := blk_frozen KA.out 1
  have cA_2 := blk_cell KA.out 2
  have fA_2 := blk_frozen KA.out 2
  clear cB_0 fB_0 cB_1 fB_1 cB_2 fB_2
  replace KB : Hid (w3.heap[w.heap.size + 1]? = some (.cells #[.int .i64 x, .int .i64 y, .int .i64 z] 23 (0, 0))) := blk_below (by repeat (first | (with_reducible first | exact KB.out | apply blk_drewN | apply blk_drew | apply blk_alloc) | exact KB.out)) hb3
  have cB_0 := blk_cell KB.out 0
  have fB_0 := blk_frozen KB.out 0
  have cB_1 := blk_cell KB.out 1
  have fB_1 := blk_frozen KB.out 1
  have cB_2 := blk_cell KB.out 2
  have fB_2 := blk_frozen KB.out 2
  clear cC_0 fC_0 cC_1 fC_1 cC_2 fC_2
  replace KC : Hid (w3.heap[w.heap.size + 1 + 1]? = some (.cells #[.int .i64 s, .int .i64 t, .int .i64 u] 23 (0, 0))) := blk_below (by repeat (first | (with_reducible first | exact KC.out | apply blk_drewN | apply blk_drew | apply blk_alloc) | exact KC.out)) hb3
  have cC_0 := blk_cell KC.out 0
  have fC_0 := blk_frozen KC.out 0
  have cC_1 := blk_cell KC.out 1
  have fC_1 := blk_frozen KC.out 1
  have cC_2 := blk_cell KC.out 2
  have fC_2 := blk_frozen KC.out 2
  have cP_0 := blk_cell KP.out 0
  have fP_0 := blk_frozen KP.out 0
  have cP_1 := blk_cell KP.out 1
  have fP_1 := blk_frozen KP.out 1
  have cP_2 := blk_cell KP.out 2
  have fP_2 := blk_frozen KP.out 2
  replace HB : Hid (Below w.heap.size w w3) := below_step (by repeat (first | (with_reducible first | exact HB.out | exact Below.refl _ _ | apply below_alloc | apply bdr | apply below_drew1) | (refine below_set ?_ (by first | omega | (simp; done) | (simp; omega))) | exact HB.out | exact Below.refl _ _)) hb3
  clear hb3
  replace hlA := blk_lt KA.out
  replace hlB := blk_lt KB.out
  replace hlC := blk_lt KC.out
  have hlP := blk_lt KP.out
  go_wp2_with fail
  refine (unit_Text.calls _ _ _ _ _ _ ((HT.out.below HB.out).alloc _) (textF_ok a b c H.out)).mono ?_
  rintro e w4 ⟨rfl, hb4⟩
  have KQ : Hid (w4.heap[w3.heap.size]? = some (.cells #[.int .i64 p1, .int .i64 p2, .int .i64 p3] 23 (0, 0))) := blk_below (blk_new w3 (.cells #[.int .i64 p1, .int .i64 p2, .int .i64 p3] 23)) hb4
  clear cA_0 fA_0 cA_1 fA_1 cA_2 fA_2
  replace KA : Hid (w4.heap[w.heap.size]? = some (.cells #[.int .i64 a, .int .i64 b, .int .i64 c] 23 (0, 0))) := blk_below (by repeat (first | (with_reducible first | exact KA.out | apply blk_drewN | apply blk_drew | apply blk_alloc) | exact KA.out)) hb4
  have cA_0 := blk_cell KA.out 0
  have fA_0 := blk_frozen KA.out 0
  have cA_1 := blk_cell KA.out 1
  have fA_1 := blk_frozen KA.out 1
  have cA_2 := blk_cell KA.out 2
  have fA_2 := blk_frozen KA.out 2
  clear cB_0 fB_0 cB_1 fB_1 cB_2 fB_2
  replace KB : Hid (w4.heap[w.heap.size + 1]? = some (.cells #[.int .i64 x, .int .i64 y, .int .i64 z] 23 (0, 0))) := blk_below (by repeat (first | (with_reducible first | exact KB.out | apply blk_drewN | apply blk_drew | apply blk_alloc) | exact KB.out)) hb4
  have cB_0 := blk_cell KB.out 0
  have fB_0 := blk_frozen KB.out 0
  have cB_1 := blk_cell KB.out 1
  have fB_1 := blk_frozen KB.out 1
  have cB_2 := blk_cell KB.out 2
  have fB_2 := blk_frozen KB.out 2
  clear cC_0 fC_0 cC_1 fC_1 cC_2 fC_2
  replace KC : Hid (w4.heap[w.heap.size + 1 + 1]? = some (.cells #[.int .i64 s, .int .i64 t, .int .i64 u] 23 (0, 0))) := blk_below (by repeat (first | (with_reducible first | exact KC.out | apply blk_drewN | apply blk_drew | apply blk_alloc) | exact KC.out)) hb4
  have cC_0 := blk_cell KC.out 0
  have fC_0 := blk_frozen KC.out 0
  have cC_1 := blk_cell KC.out 1
  have fC_1 := blk_frozen KC.out 1
  have cC_2 := blk_cell KC.out 2
  have fC_2 := blk_frozen KC.out 2
  clear cP_0 fP_0 cP_1 fP_1 cP_2 fP_2
  replace KP : Hid (w4.heap[w2.heap.size]? = some (.cells #[.int .i64 p1, .int .i64 p2, .int .i64 p3] 23 (0, 0))) := blk_below (by repeat (first | (with_reducible first | exact KP.out | apply blk_drewN | apply blk_drew | apply blk_alloc) | exact KP.out)) hb4
  have cP_0 := blk_cell KP.out 0
  have fP_0 := blk_frozen KP.out 0
  have cP_1 := blk_cell KP.out 1
  have fP_1 := blk_frozen KP.out 1
  have cP_2 := blk_cell KP.out 2
  have fP_2 := blk_frozen KP.out 2
  have cQ_0 := blk_cell KQ.out 0
  have fQ_0 := blk_frozen KQ.out 0
  have cQ_1 := blk_cell KQ.out 1
  have fQ_1 := blk_frozen KQ.out 1
  have cQ_2 := blk_cell KQ.out 2
  have fQ_2 := blk_frozen KQ.out 2
  replace HB : Hid (Below w.heap.size w w4) := below_step (by repeat (first | (with_reducible first | exact HB.out | exact Below.refl _ _ | apply below_alloc | apply bdr | apply below_drew1) | (refine below_set ?_ (by first | omega | (simp; done) | (simp; omega))) | exact HB.out | exact Below.refl _ _)) hb4
  clear hb4
  replace hlA := blk_lt KA.out
  replace hlB := blk_lt KB.out
  replace hlC := blk_lt KC.out
  replace hlP := blk_lt KP.out
  have hlQ := blk_lt KQ.out
  go_wp2_with fail
  clear cQ_0 fQ_0 cQ_1 fQ_1 cQ_2 fQ_2
  clear hlQ KQ
  refine (unit_Mul.calls _ _ _ _ _ _ _ _ _ _ _ (mulF_one a b c H.out)).mono ?_
  rintro e w5 ⟨rfl, hb5⟩
  clear cA_0 fA_0 cA_1 fA_1 cA_2 fA_2
  replace KA : Hid (w5.heap[w.heap.size]? = some (.cells #[.int .i64 a, .int .i64 b, .int .i64 c] 23 (0, 0))) := blk_below (by repeat (first | (with_reducible first | exact KA.out | apply blk_drewN | apply blk_drew | apply blk_alloc) | exact KA.out)) hb5
  have cA_0 := blk_cell KA.out 0
  have fA_0 := blk_frozen KA.out 0
  have cA_1 := blk_cell KA.out 1
  have fA_1 := blk_frozen KA.out 1
  have cA_2 := blk_cell KA.out 2
  have fA_2 := blk_frozen KA.out 2
  clear cB_0 fB_0 cB_1 fB_1 cB_2 fB_2
  replace KB : Hid (w5.heap[w.heap.size + 1]? = some (.cells #[.int .i64 x, .int .i64 y, .int .i64 z] 23 (0, 0))) := blk_below (by repeat (first | (with_reducible first | exact KB.out | apply blk_drewN | apply blk_drew | apply blk_alloc) | exact KB.out)) hb5
  have cB_0 := blk_cell KB.out 0
  have fB_0 := blk_frozen KB.out 0
  have cB_1 := blk_cell KB.out 1
  have fB_1 := blk_frozen KB.out 1
  have cB_2 := blk_cell KB.out 2
  have fB_2 := blk_frozen KB.out 2
  clear cC_0 fC_0 cC_1 fC_1 cC_2 fC_2
  replace KC : Hid (w5.heap[w.heap.size + 1 + 1]? = some (.cells #[.int .i64 s, .int .i64 t, .int .i64 u] 23 (0, 0))) := blk_below (by repeat (first | (with_reducible first | exact KC.out | apply blk_drewN | apply blk_drew | apply blk_alloc) | exact KC.out)) hb5
  have cC_0 := blk_cell KC.out 0
  have fC_0 := blk_frozen KC.out 0
  have cC_1 := blk_cell KC.out 1
  have fC_1 := blk_frozen KC.out 1
  have cC_2 := blk_cell KC.out 2
  have fC_2 := blk_frozen KC.out 2
  clear cP_0 fP_0 cP_1 fP_1 cP_2 fP_2
  replace KP : Hid (w5.heap[w2.heap.size]? = some (.cells #[.int .i64 p1, .int .i64 p2, .int .i64 p3] 23 (0, 0))) := blk_below (by repeat (first | (with_reducible first | exact KP.out | apply blk_drewN | apply blk_drew | apply blk_alloc) | exact KP.out)) hb5
  have cP_0 := blk_cell KP.out 0
  have fP_0 := blk_frozen KP.out 0
  have cP_1 := blk_cell KP.out 1
  have fP_1 := blk_frozen KP.out 1
  have cP_2 := blk_cell KP.out 2
  have fP_2 := blk_frozen KP.out 2
  replace HB : Hid (Below w.heap.size w w5) := below_step (by repeat (first | (with_reducible first | exact HB.out | exact Below.refl _ _ | apply below_alloc | apply bdr | apply below_drew1) | (refine below_set ?_ (by first | omega | (simp; done) | (simp; omega))) | exact HB.out | exact Below.refl _ _)) hb5
  clear hb5
  replace hlA := blk_lt KA.out
  replace hlB := blk_lt KB.out
  replace hlC := blk_lt KC.out
  replace hlP := blk_lt KP.out
  go_wp2_with fail
  refine (unit_Power.calls _ _ _ _ _ _ _ _ _ (powF_back a b c H.out)).mono ?_
  rintro e w6 ⟨rfl, hb6⟩
  have KS : Hid (w6.heap[w5.heap.size]? = some (.cells #[.int .i64 a, .int .i64 b, .int .i64 c] 23 (0, 0))) := blk_below (blk_new w5 (.cells #[.int .i64 a, .int .i64 b, .int .i64 c] 23)) hb6
  clear cA_0 fA_0 cA_1 fA_1 cA_2 fA_2
  replace KA : Hid (w6.heap[w.heap.size]? = some (.cells #[.int .i64 a, .int .i64 b, .int .i64 c] 23 (0, 0))) := blk_below (by repeat (first | (with_reducible first | exact KA.out | apply blk_drewN | apply blk_drew | apply blk_alloc) | exact KA.out)) hb6
  have cA_0 := blk_cell KA.out 0
  have fA_0 := blk_frozen KA.out 0
  have cA_1 := blk_cell KA.out 1
  have fA_1 := blk_frozen KA.out 1
  have cA_2 := blk_cell KA.out 2
  have fA_2 := blk_frozen KA.out 2
  clear cB_0 fB_0 cB_1 fB_1 cB_2 fB_2
  replace KB : Hid (w6.heap[w.heap.size + 1]? = some (.cells #[.int .i64 x, .int .i64 y, .int .i64 z] 23 (0, 0))) := blk_below (by repeat (first | (with_reducible first | exact KB.out | apply blk_drewN | apply blk_drew | apply blk_alloc) | exact KB.out)) hb6
  have cB_0 := blk_cell KB.out 0
  have fB_0 := blk_frozen KB.out 0
  have cB_1 := blk_cell KB.out 1
  have fB_1 := blk_frozen KB.out 1
  have cB_2 := blk_cell KB.out 2
  have fB_2 := blk_frozen KB.out 2
  clear cC_0 fC_0 cC_1 fC_1 cC_2 fC_2
  replace KC : Hid (w6.heap[w.heap.size + 1 + 1]? = some (.cells #[.int .i64 s, .int .i64 t, .int .i64 u] 23 (0, 0))) := blk_below (by repeat (first | (with_reducible first | exact KC.out | apply blk_drewN | apply blk_drew | apply blk_alloc) | exact KC.out)) hb6
  have cC_0 := blk_cell KC.out 0
  have fC_0 := blk_frozen KC.out 0
  have cC_1 := blk_cell KC.out 1
  have fC_1 := blk_frozen KC.out 1
  have cC_2 := blk_cell KC.out 2
  have fC_2 := blk_frozen KC.out 2
  clear cP_0 fP_0 cP_1 fP_1 cP_2 fP_2
  replace KP : Hid (w6.heap[w2.heap.size]? = some (.cells #[.int .i64 p1, .int .i64 p2, .int .i64 p3] 23 (0, 0))) := blk_below (by repeat (first | (with_reducible first | exact KP.out | apply blk_drewN | apply blk_drew | apply blk_alloc) | exact KP.out)) hb6
  have cP_0 := blk_cell KP.out 0
  have fP_0 := blk_frozen KP.out 0
  have cP_1 := blk_cell KP.out 1
  have fP_1 := blk_frozen KP.out 1
  have cP_2 := blk_cell KP.out 2
  have fP_2 := blk_frozen KP.out 2
  have cS_0 := blk_cell KS.out 0
  have fS_0 := blk_frozen KS.out 0
  have cS_1 := blk_cell KS.out 1
  have fS_1 := blk_frozen KS.out 1
  have cS_2 := blk_cell KS.out 2
  have fS_2 := blk_frozen KS.out 2
  replace HB : Hid (Below w.heap.size w w6) := below_step (by repeat (first | (with_reducible first | exact HB.out | exact Below.refl _ _ | apply below_alloc | apply bdr | apply below_drew1) | (refine below_set ?_ (by first | omega | (simp; done) | (simp; omega))) | exact HB.out | exact Below.refl _ _)) hb6
  clear hb6
  replace hlA := blk_lt KA.out
  replace hlB := blk_lt KB.out
  replace hlC := blk_lt KC.out
  replace hlP := blk_lt KP.out
  have hlS := blk_lt KS.out
  go_wp2_with fail
  refine (unit_Mul.calls _ _ _ _ _ _ _ _ _ _ _ (mulF_back a b c H.out)).mono ?_
  rintro e w7 ⟨rfl, hb7⟩
  have KR : Hid (w7.heap[w6.heap.size]? = some (.cells #[.int .i64 (-a), .int .i64 (-b), .int .i64 (-c)] 23 (0, 0))) := blk_below (blk_new w6 (.cells #[.int .i64 (-a), .int .i64 (-b), .int .i64 (-c)] 23)) hb7
  clear cA_0 fA_0 cA_1 fA_1 cA_2 fA_2
  replace KA : Hid (w7.heap[w.heap.size]? = some (.cells #[.int .i64 a, .int .i64 b, .int .i64 c] 23 (0, 0))) := blk_below (by repeat (first | (with_reducible first | exact KA.out | apply blk_drewN | apply blk_drew | apply blk_alloc) | exact KA.out)) hb7
  have cA_0 := blk_cell KA.out 0
  have fA_0 := blk_frozen KA.out 0
  have cA_1 := blk_cell KA.out 1
  have fA_1 := blk_frozen KA.out 1
  have cA_2 := blk_cell KA.out 2
  have fA_2 := blk_frozen KA.out 2
  clear cB_0 fB_0 cB_1 fB_1 cB_2 fB_2
  replace KB : Hid (w7.heap[w.heap.size + 1]? = some (.cells #[.int .i64 x, .int .i64 y, .int .i64 z] 23 (0, 0))) := blk_below (by repeat (first | (with_reducible first | exact KB.out | apply blk_drewN | apply blk_drew | apply blk_alloc) | exact KB.out)) hb7
  have cB_0 := blk_cell KB.out 0
  have fB_0 := blk_frozen KB.out 0
  have cB_1 := blk_cell KB.out 1
  have fB_1 := blk_frozen KB.out 1
  have cB_2 := blk_cell KB.out 2
  have fB_2 := blk_frozen KB.out 2
  clear cC_0 fC_0 cC_1 fC_1 cC_2 fC_2
  replace KC : Hid (w7.heap[w.heap.size + 1 + 1]? = some (.cells #[.int .i64 s, .int .i64 t, .int .i64 u] 23 (0, 0))) := blk_below (by repeat (first | (with_reducible first | exact KC.out | apply blk_drewN | apply blk_drew | apply blk_alloc) | exact KC.out)) hb7
  have cC_0 := blk_cell KC.out 0
  have fC_0 := blk_frozen KC.out 0
  have cC_1 := blk_cell KC.out 1
  have fC_1 := blk_frozen KC.out 1
  have cC_2 := blk_cell KC.out 2
  have fC_2 := blk_frozen KC.out 2
  clear cP_0 fP_0 cP_1 fP_1 cP_2 fP_2
  replace KP : Hid (w7.heap[w2.heap.size]? = some (.cells #[.int .i64 p1, .int .i64 p2, .int .i64 p3] 23 (0, 0))) := blk_below (by repeat (first | (with_reducible first | exact KP.out | apply blk_drewN | apply blk_drew | apply blk_alloc) | exact KP.out)) hb7
  have cP_0 := blk_cell KP.out 0
  have fP_0 := blk_frozen KP.out 0
  have cP_1 := blk_cell KP.out 1
  have fP_1 := blk_frozen KP.out 1
  have cP_2 := blk_cell KP.out 2
  have fP_2 := blk_frozen KP.out 2
  clear cS_0 fS_0 cS_1 fS_1 cS_2 fS_2
  replace KS : Hid (w7.heap[w5.heap.size]? = some (.cells #[.int .i64 a, .int .i64 b, .int .i64 c] 23 (0, 0))) := blk_below (by repeat (first | (with_reducible first | exact KS.out | apply blk_drewN | apply blk_drew | apply blk_alloc) | exact KS.out)) hb7
  have cS_0 := blk_cell KS.out 0
  have fS_0 := blk_frozen KS.out 0
  have cS_1 := blk_cell KS.out 1
  have fS_1 := blk_frozen KS.out 1
  have cS_2 := blk_cell KS.out 2
  have fS_2 := blk_frozen KS.out 2
  have cR_0 := blk_cell KR.out 0
  have fR_0 := blk_frozen KR.out 0
  have cR_1 := blk_cell KR.out 1
  have fR_1 := blk_frozen KR.out 1
  have cR_2 := blk_cell KR.out 2
  have fR_2 := blk_frozen KR.out 2
  replace HB : Hid (Below w.heap.size w w7) := below_step (by repeat (first | (with_reducible first | exact HB.out | exact Below.refl _ _ | apply below_alloc | apply bdr | apply below_drew1) | (refine below_set ?_ (by first | omega | (simp; done) | (simp; omega))) | exact HB.out | exact Below.refl _ _)) hb7
  clear hb7
  replace hlA := blk_lt KA.out
  replace hlB := blk_lt KB.out
  replace hlC := blk_lt KC.out
  replace hlP := blk_lt KP.out
  replace hlS := blk_lt KS.out
  have hlR := blk_lt KR.out
  go_wp2_with fail
  refine (unit_Mul.calls _ _ _ _ _ _ _ _ _ _ _ M3.out).mono ?_
  rintro e w8 ⟨rfl, hb8⟩
  have KO : Hid (w8.heap[w7.heap.size]? = some (.cells #[.int .i64 0, .int .i64 0, .int .i64 0] 23 (0, 0))) := blk_below (blk_new w7 (.cells #[.int .i64 0, .int .i64 0, .int .i64 0] 23)) hb8
  clear cA_0 fA_0 cA_1 fA_1 cA_2 fA_2
  replace KA : Hid (w8.heap[w.heap.size]? = some (.cells #[.int .i64 a, .int .i64 b, .int .i64 c] 23 (0, 0))) := blk_below (by repeat (first | (with_reducible first | exact KA.out | apply blk_drewN | apply blk_drew | apply blk_alloc) | exact KA.out)) hb8
  have cA_0 := blk_cell KA.out 0
  have fA_0 := blk_frozen KA.out 0
  have cA_1 := blk_cell KA.out 1
  have fA_1 := blk_frozen KA.out 1
  have cA_2 := blk_cell KA.out 2
  have fA_2 := blk_frozen KA.out 2
  clear cB_0 fB_0 cB_1 fB_1 cB_2 fB_2
  replace KB : Hid (w8.heap[w.heap.size + 1]? = some (.cells #[.int .i64 x, .int .i64 y, .int .i64 z] 23 (0, 0))) := blk_below (by repeat (first | (with_reducible first | exact KB.out | apply blk_drewN | apply blk_drew | apply blk_alloc) | exact KB.out)) hb8
  have cB_0 := blk_cell KB.out 0
  have fB_0 := blk_frozen KB.out 0
  have cB_1 := blk_cell KB.out 1
  have fB_1 := blk_frozen KB.out 1
  have cB_2 := blk_cell KB.out 2
  have fB_2 := blk_frozen KB.out 2
  clear cC_0 fC_0 cC_1 fC_1 cC_2 fC_2
  replace KC : Hid (w8.heap[w.heap.size + 1 + 1]? = some (.cells #[.int .i64 s, .int .i64 t, .int .i64 u] 23 (0, 0))) := blk_below (by repeat (first | (with_reducible first | exact KC.out | apply blk_drewN | apply blk_drew | apply blk_alloc) | exact KC.out)) hb8
  have cC_0 := blk_cell KC.out 0
  have fC_0 := blk_frozen KC.out 0
  have cC_1 := blk_cell KC.out 1
  have fC_1 := blk_frozen KC.out 1
  have cC_2 := blk_cell KC.out 2
  have fC_2 := blk_frozen KC.out 2
  clear cP_0 fP_0 cP_1 fP_1 cP_2 fP_2
  replace KP : Hid (w8.heap[w2.heap.size]? = some (.cells #[.int .i64 p1, .int .i64 p2, .int .i64 p3] 23 (0, 0))) := blk_below (by repeat (first | (with_reducible first | exact KP.out | apply blk_drewN | apply blk_drew | apply blk_alloc) | exact KP.out)) hb8
  have cP_0 := blk_cell KP.out 0
  have fP_0 := blk_frozen KP.out 0
  have cP_1 := blk_cell KP.out 1
  have fP_1 := blk_frozen KP.out 1
  have cP_2 := blk_cell KP.out 2
  have fP_2 := blk_frozen KP.out 2
  clear cS_0 fS_0 cS_1 fS_1 cS_2 fS_2
  replace KS : Hid (w8.heap[w5.heap.size]? = some (.cells #[.int .i64 a, .int .i64 b, .int .i64 c] 23 (0, 0))) := blk_below (by repeat (first | (with_reducible first | exact KS.out | apply blk_drewN | apply blk_drew | apply blk_alloc) | exact KS.out)) hb8
  have cS_0 := blk_cell KS.out 0
  have fS_0 := blk_frozen KS.out 0
  have cS_1 := blk_cell KS.out 1
  have fS_1 := blk_frozen KS.out 1
  have cS_2 := blk_cell KS.out 2
  have fS_2 := blk_frozen KS.out 2
  clear cR_0 fR_0 cR_1 fR_1 cR_2 fR_2
  replace KR : Hid (w8.heap[w6.heap.size]? = some (.cells #[.int .i64 (-a), .int .i64 (-b), .int .i64 (-c)] 23 (0, 0))) := blk_below (by repeat (first | (with_reducible first | exact KR.out | apply blk_drewN | apply blk_drew | apply blk_alloc) | exact KR.out)) hb8
  have cR_0 := blk_cell KR.out 0
  have fR_0 := blk_frozen KR.out 0
  have cR_1 := blk_cell KR.out 1
  have fR_1 := blk_frozen KR.out 1
  have cR_2 := blk_cell KR.out 2
  have fR_2 := blk_frozen KR.out 2
  have cO_0 := blk_cell KO.out 0
  have fO_0 := blk_frozen KO.out 0
  have cO_1 := blk_cell KO.out 1
  have fO_1 := blk_frozen KO.out 1
  have cO_2 := blk_cell KO.out 2
  have fO_2 := blk_frozen KO.out 2
  replace HB : Hid (Below w.heap.size w w8) := below_step (by repeat (first | (with_reducible first | exact HB.out | exact Below.refl _ _ | apply below_alloc | apply bdr | apply below_drew1) | (refine below_set ?_ (by first | omega | (simp; done) | (simp; omega))) | exact HB.out | exact Below.refl _ _)) hb8
  clear hb8
  replace hlA := blk_lt KA.out
  replace hlB := blk_lt KB.out
  replace hlC := blk_lt KC.out
  replace hlP := blk_lt KP.out
  replace hlS := blk_lt KS.out
  replace hlR := blk_lt KR.out
  have hlO := blk_lt KO.out
  go_wp2_with fail
  clear cS_0 fS_0 cS_1 fS_1 cS_2 fS_2
  clear hlS KS
  clear cR_0 fR_0 cR_1 fR_1 cR_2 fR_2
  clear hlR KR
  clear cO_0 fO_0 cO_1 fO_1 cO_2 fO_2
  clear hlO KO
  clear cB_0 fB_0 cB_1 fB_1 cB_2 fB_2
  clear hlB KB
  refine (unit_Mul.calls _ _ _ _ _ _ _ _ _ _ _ M4.out).mono ?_
  rintro e w9 ⟨rfl, hb9⟩
  have KD : Hid (w9.heap[w8.heap.size]? = some (.cells #[.int .i64 q1, .int .i64 q2, .int .i64 q3] 23 (0, 0))) := blk_below (blk_new w8 (.cells #[.int .i64 q1, .int .i64 q2, .int .i64 q3] 23)) hb9
  clear cA_0 fA_0 cA_1 fA_1 cA_2 fA_2
  replace KA : Hid (w9.heap[w.heap.size]? = some (.cells #[.int .i64 a, .int .i64 b, .int .i64 c] 23 (0, 0))) := blk_below (by repeat (first | (with_reducible first | exact KA.out | apply blk_drewN | apply blk_drew | apply blk_alloc) | exact KA.out)) hb9
  have cA_0 := blk_cell KA.out 0
  have fA_0 := blk_frozen KA.out 0
  have cA_1 := blk_cell KA.out 1
  have fA_1 := blk_frozen KA.out 1
  have cA_2 := blk_cell KA.out 2
  have fA_2 := blk_frozen KA.out 2
  clear cC_0 fC_0 cC_1 fC_1 cC_2 fC_2
  replace KC : Hid (w9.heap[w.heap.size + 1 + 1]? = some (.cells #[.int .i64 s, .int .i64 t, .int .i64 u] 23 (0, 0))) := blk_below (by repeat (first | (with_reducible first | exact KC.out | apply blk_drewN | apply blk_drew | apply blk_alloc) | exact KC.out)) hb9
  have cC_0 := blk_cell KC.out 0
  have fC_0 := blk_frozen KC.out 0
  have cC_1 := blk_cell KC.out 1
  have fC_1 := blk_frozen KC.out 1
  have cC_2 := blk_cell KC.out 2
  have fC_2 := blk_frozen KC.out 2
  clear cP_0 fP_0 cP_1 fP_1 cP_2 fP_2
  replace KP : Hid (w9.heap[w2.heap.size]? = some (.cells #[.int .i64 p1, .int .i64 p2, .int .i64 p3] 23 (0, 0))) := blk_below (by repeat (first | (with_reducible first | exact KP.out | apply blk_drewN | apply blk_drew | apply blk_alloc) | exact KP.out)) hb9
  have cP_0 := blk_cell KP.out 0
  have fP_0 := blk_frozen KP.out 0
  have cP_1 := blk_cell KP.out 1
  have fP_1 := blk_frozen KP.out 1
  have cP_2 := blk_cell KP.out 2
  have fP_2 := blk_frozen KP.out 2
  have cD_0 := blk_cell KD.out 0
  have fD_0 := blk_frozen KD.out 0
  have cD_1 := blk_cell KD.out 1
  have fD_1 := blk_frozen KD.out 1
  have cD_2 := blk_cell KD.out 2
  have fD_2 := blk_frozen KD.out 2
  replace HB : Hid (Below w.heap.size w w9) := below_step (by repeat (first | (with_reducible first | exact HB.out | exact Below.refl _ _ | apply below_alloc | apply bdr | apply below_drew1) | (refine below_set ?_ (by first | omega | (simp; done) | (simp; omega))) | exact HB.out | exact Below.refl _ _)) hb9
  clear hb9
  replace hlA := blk_lt KA.out
  replace hlC := blk_lt KC.out
  replace hlP := blk_lt KP.out
  have hlD := blk_lt KD.out
  go_wp2_with fail
  clear cP_0 fP_0 cP_1 fP_1 cP_2 fP_2
  clear hlP KP
  clear cC_0 fC_0 cC_1 fC_1 cC_2 fC_2
  clear hlC KC
  refine (unit_Mul.calls _ _ _ _ _ _ _ _ _ _ _ M5.out).mono ?_
  rintro e w10 ⟨rfl, hb10⟩
  have KX : Hid (w10.heap[w9.heap.size]? = some (.cells #[.int .i64 r1, .int .i64 r2, .int .i64 r3] 23 (0, 0))) := blk_below (blk_new w9 (.cells #[.int .i64 r1, .int .i64 r2, .int .i64 r3] 23)) hb10
  clear cA_0 fA_0 cA_1 fA_1 cA_2 fA_2
  replace KA : Hid (w10.heap[w.heap.size]? = some (.cells #[.int .i64 a, .int .i64 b, .int .i64 c] 23 (0, 0))) := blk_below (by repeat (first | (with_reducible first | exact KA.out | apply blk_drewN | apply blk_drew | apply blk_alloc) | exact KA.out)) hb10
  have cA_0 := blk_cell KA.out 0
  have fA_0 := blk_frozen KA.out 0
  have cA_1 := blk_cell KA.out 1
  have fA_1 := blk_frozen KA.out 1
  have cA_2 := blk_cell KA.out 2
  have fA_2 := blk_frozen KA.out 2
  clear cD_0 fD_0 cD_1 fD_1 cD_2 fD_2
  replace KD : Hid (w10.heap[w8.heap.size]? = some (.cells #[.int .i64 q1, .int .i64 q2, .int .i64 q3] 23 (0, 0))) := blk_below (by repeat (first | (with_reducible first | exact KD.out | apply blk_drewN | apply blk_drew | apply blk_alloc) | exact KD.out)) hb10
  have cD_0 := blk_cell KD.out 0
  have fD_0 := blk_frozen KD.out 0
  have cD_1 := blk_cell KD.out 1
  have fD_1 := blk_frozen KD.out 1
  have cD_2 := blk_cell KD.out 2
  have fD_2 := blk_frozen KD.out 2
  have cX_0 := blk_cell KX.out 0
  have fX_0 := blk_frozen KX.out 0
  have cX_1 := blk_cell KX.out 1
  have fX_1 := blk_frozen KX.out 1
  have cX_2 := blk_cell KX.out 2
  have fX_2 := blk_frozen KX.out 2
  replace HB : Hid (Below w.heap.size w w10) := below_step (by repeat (first | (with_reducible first | exact HB.out | exact Below.refl _ _ | apply below_alloc | apply bdr | apply below_drew1) | (refine below_set ?_ (by first | omega | (simp; done) | (simp; omega))) | exact HB.out | exact Below.refl _ _)) hb10
  clear hb10
  replace hlA := blk_lt KA.out
  replace hlD := blk_lt KD.out
  have hlX := blk_lt KX.out
  go_wp2_with fail
  go_ret
  exact ⟨rfl, below_alloc HB.out _⟩

set_option maxRecDepth 100000 in
set_option maxHeartbeats 4000000 in
theorem group_k (a b c x y z s t u : Int) (w : World) (hT : Tabs w) (p1 p2 p3 q1 q2 q3 r1 r2 r3 s1 s2 s3 e j k l : Int) (h : okU a b c) (m1 : unit_Mul.f a b c x y z = some (p1, p2, p3, 0)) (m3 : unit_Mul.f x y z s t u = some (q1, q2, q3, 0)) (m4 : unit_Mul.f p1 p2 p3 s t u = some (r1, r2, r3, k)) (m5 : unit_Mul.f a b c q1 q2 q3 = some (s1, s2, s3, l)) (zk : ¬ k = 0) :
    Calls Tryd.prog 4 #[.agg #[.int .i64 a, .int .i64 b, .int .i64 c], .agg #[.int .i64 x, .int .i64 y, .int .i64 z], .agg #[.int .i64 s, .int .i64 t, .int .i64 u]] w fun e w' => e = .returned (.bool true) ∧ Below w.heap.size w w' := by
  have HT := Lib.hid hT
  clear hT
  have H := Lib.hid h
  clear h
  have M1 := Lib.hid m1
  clear m1
  have M3 := Lib.hid m3
  clear m3
  have M4 := Lib.hid m4
  clear m4
  have M5 := Lib.hid m5
  clear m5
  have zk1 : (k == 0) = false := by simpa using zk
  have zk2 : (k != 0) = true := by simpa using zk
  have h3 := alloc3_blk w (.cells #[.int .i64 a, .int .i64 b, .int .i64 c] 23) (.cells #[.int .i64 x, .int .i64 y, .int .i64 z] 23) (.cells #[.int .i64 s, .int .i64 t, .int .i64 u] 23)
  go_enter Tryd.func4, Tryd.ntmps4
  go_wp2_with fail
  refine (head.calls true _ (((HT.out.alloc _).alloc _).alloc _) rfl).mono ?_
  rintro e w1 ⟨rfl, hb1⟩
  have KA : Hid (w1.heap[w.heap.size]? = some (.cells #[.int .i64 a, .int .i64 b, .int .i64 c] 23 (0, 0))) := blk_below h3.1 hb1
  have KB : Hid (w1.heap[w.heap.size + 1]? = some (.cells #[.int .i64 x, .int .i64 y, .int .i64 z] 23 (0, 0))) := blk_below h3.2.1 hb1
  have KC : Hid (w1.heap[w.heap.size + 1 + 1]? = some (.cells #[.int .i64 s, .int .i64 t, .int .i64 u] 23 (0, 0))) := blk_below h3.2.2 hb1
  have cA_0 := blk_cell KA.out 0
  have fA_0 := blk_frozen KA.out 0
  have cA_1 := blk_cell KA.out 1
  have fA_1 := blk_frozen KA.out 1
  have cA_2 := blk_cell KA.out 2
  have fA_2 := blk_frozen KA.out 2
  have cB_0 := blk_cell KB.out 0
  have fB_0 := blk_frozen KB.out 0
  have cB_1 := blk_cell KB.out 1
  have fB_1 := blk_frozen KB.out 1
  have cB_2 := blk_cell KB.out 2
  have fB_2 := blk_frozen KB.out 2
  have cC_0 := blk_cell KC.out 0
  have fC_0 := blk_frozen KC.out 0
  have cC_1 := blk_cell KC.out 1
  have fC_1 := blk_frozen KC.out 1
  have cC_2 := blk_cell KC.out 2
  have fC_2 := blk_frozen KC.out 2
  have HB : Hid (Below w.heap.size w w1) := below_step (by repeat (first | (with_reducible first | exact HB.out | exact Below.refl _ _ | apply below_alloc | apply bdr | apply below_drew1) | (refine below_set ?_ (by first | omega | (simp; done) | (simp; omega))) | exact HB.out | exact Below.refl _ _)) hb1
  clear hb1
  clear h3
  have hlA := blk_lt KA.out
  have hlB := blk_lt KB.out
  have hlC := blk_lt KC.out
  go_wp2_with fail
  refine (unit_Mul.calls _ _ _ _ _ _ _ _ _ _ _ M1.out).mono ?_
  rintro e w2 ⟨rfl, hb2⟩
  clear cA_0 fA_0 cA_1 fA_1 cA_2 fA_2
  replace KA : Hid (w2.heap[w.heap.size]? = some (.cells #[.int .i64 a, .int .i64 b, .int .i64 c] 23 (0, 0))) := blk_below (by repeat (first | (with_reducible first | exact KA.out | apply blk_drewN | apply blk_drew | apply blk_alloc) | exact KA.out)) hb2
  have cA_0 := blk_cell KA.out 0
  have fA_0 := blk_frozen KA.out 0
  have cA_1 := blk_cell KA.out 1
  have fA_1 := blk_frozen KA.out 1
  have cA_2 := blk_cell KA.out 2
  have fA_2 := blk_frozen KA.out 2
  clear cB_0 fB_0 cB_1 fB_1 cB_2 fB_2
  replace KB : Hid (w2.heap[w.heap.size + 1]? = some (.cells #[.int .i64 x, .int .i64 y, .int .i64 z] 23 (0, 0))) := blk_below (by repeat (first | (with_reducible first | exact KB.out | apply blk_drewN | apply blk_drew | apply blk_alloc) | exact KB.out)) hb2
  have cB_0 := blk_cell KB.out 0
  have fB_0 := blk_frozen KB.out 0
  have cB_1 := blk_cell KB.out 1
  have fB_1 := blk_frozen KB.out 1
  have cB_2 := blk_cell KB.out 2
  have fB_2 := blk_frozen KB.out 2
  clear cC_0 fC_0 cC_1 fC_1 cC_2 fC_2
  replace KC : Hid (w2.heap[w.heap.size + 1 + 1]? = some (.cells #[.int .i64 s, .int .i64 t, .int .i64 u] 23 (0, 0))) := blk_below (by repeat (first | (with_reducible first | exact KC.out | apply blk_drewN | apply blk_drew | apply blk_alloc) | exact KC.out)) hb2
  have cC_0 := blk_cell KC.out 0
  have fC_0 := blk_frozen KC.out 0
  have cC_1 := blk_cell KC.out 1
  have fC_1 := blk_frozen KC.out 1
  have cC_2 := blk_cell KC.out 2
  have fC_2 := blk_frozen KC.out 2
  replace HB : Hid (Below w.heap.size w w2) := below_step (by repeat (first | (with_reducible first | exact HB.out | exact Below.refl _ _ | apply below_alloc | apply bdr | apply below_drew1) | (refine below_set ?_ (by first | omega | (simp; done) | (simp; omega))) | exact HB.out | exact Below.refl _ _)) hb2
  clear hb2
  replace hlA := blk_lt KA.out
  replace hlB := blk_lt KB.out
  replace hlC := blk_lt KC.out
  go_wp2_with fail
  refine (unit_Mul.calls _ _ _ _ _ _ _ _ _ _ _ ((mulF_comm a b c x y z).trans M1.out)).mono ?_
  rintro e w3 ⟨rfl, hb3⟩
  have KP : Hid (w3.heap[w2.heap.size]? = some (.cells #[.int .i64 p1, .int .i64 p2, .int .i64 p3] 23 (0, 0))) := blk_below (blk_new w2 (.cells #[.int .i64 p1, .int .i64 p2, .int .i64 p3] 23)) hb3
  clear cA_0 fA_0 cA_1 fA_1 cA_2 fA_2
  replace KA : Hid (w3.heap[w.heap.size]? = some (.cells #[.int .i64 a, .int .i64 b, .int .i64 c] 23 (0, 0))) := blk_below (by repeat (first | (with_reducible first | exact KA.out | apply blk_drewN | apply blk_drew | apply blk_alloc) | exact KA.out)) hb3
  have cA_0 := blk_cell KA.out 0
  have fA_0 := blk_frozen KA.out 0
  have cA_1 := blk_cell KA.out 1
  have fA_1 := blk_frozen KA.out 1
  have cA_2 := blk_cell KA.out 2
  have fA_2 := blk_frozen KA.out 2
  clear cB_0 fB_0 cB_1 fB_1 cB_2 fB_2
  replace KB : Hid (w3.heap[w.heap.size + 1]? = some (.cells #[.int .i64 x, .int .i64 y, .int .i64 z] 23 (0, 0))) := blk_below (by repeat (first | (with_reducible first | exact KB.out | apply blk_drewN | apply blk_drew | apply blk_alloc) | exact KB.out)) hb3
  have cB_0 := blk_cell KB.out 0
  have fB_0 := blk_frozen KB.out 0
  have cB_1 := blk_cell KB.out 1
  have fB_1 := blk_frozen KB.out 1
  have cB_2 := blk_cell KB.out 2
  have fB_2 := blk_frozen KB.out 2
  clear cC_0 fC_0 cC_1 fC_1 cC_2 fC_2
  replace KC : Hid (w3.heap[w.heap.size + 1 + 1]? = some (.cells #[.int .i64 s, .int .i64 t, .int .i64 u] 23 (0, 0))) := blk_below (by repeat (first | (with_reducible first | exact KC.out | apply blk_drewN | apply blk_drew | apply blk_alloc) | exact KC.out)) hb3
  have cC_0 := blk_cell KC.out 0
  have fC_0 := blk_frozen KC.out 0
  have cC_1 := blk_cell KC.out 1
  have fC_1 := blk_frozen KC.out 1
  have cC_2 := blk_cell KC.out 2
  have fC_2 := blk_frozen KC.out 2
  have cP_0 := blk_cell KP.out 0
  have fP_0 := blk_frozen KP.out 0
  have cP_1 := blk_cell KP.out 1
  have fP_1 := blk_frozen KP.out 1
  have cP_2 := blk_cell KP.out 2
  have fP_2 := blk_frozen KP.out 2
  replace HB : Hid (Below w.heap.size w w3) := below_step (by repeat (first | (with_reducible first | exact HB.out | exact Below.refl _ _ | apply below_alloc | apply bdr | apply below_drew1) | (refine below_set ?_ (by first | omega | (simp; done) | (simp; omega))) | exact HB.out | exact Below.refl _ _)) hb3
  clear hb3
  replace hlA := blk_lt KA.out
  replace hlB := blk_lt KB.out
  replace hlC := blk_lt KC.out
  have hlP := blk_lt KP.out
  go_wp2_with fail
  refine (unit_Text.calls _ _ _ _ _ _ ((HT.out.below HB.out).alloc _) (textF_ok a b c H.out)).mono ?_
  rintro e w4 ⟨rfl, hb4⟩
  have KQ : Hid (w4.heap[w3.heap.size]? = some (.cells #[.int .i64 p1, .int .i64 p2, .int .i64 p3] 23 (0, 0))) := blk_below (blk_new w3 (.cells #[.int .i64 p1, .int .i64 p2, .int .i64 p3] 23)) hb4
  clear cA_0 fA_0 cA_1 fA_1 cA_2 fA_2
  replace KA : Hid (w4.heap[w.heap.size]? = some (.cells #[.int .i64 a, .int .i64 b, .int .i64 c] 23 (0, 0))) := blk_below (by repeat (first | (with_reducible first | exact KA.out | apply blk_drewN | apply blk_drew | apply blk_alloc) | exact KA.out)) hb4
  have cA_0 := blk_cell KA.out 0
  have fA_0 := blk_frozen KA.out 0
  have cA_1 := blk_cell KA.out 1
  have fA_1 := blk_frozen KA.out 1
  have cA_2 := blk_cell KA.out 2
  have fA_2 := blk_frozen KA.out 2
  clear cB_0 fB_0 cB_1 fB_1 cB_2 fB_2
  replace KB : Hid (w4.heap[w.heap.size + 1]? = some (.cells #[.int .i64 x, .int .i64 y, .int .i64 z] 23 (0, 0))) := blk_below (by repeat (first | (with_reducible first | exact KB.out | apply blk_drewN | apply blk_drew | apply blk_alloc) | exact KB.out)) hb4
  have cB_0 := blk_cell KB.out 0
  have fB_0 := blk_frozen KB.out 0
  have cB_1 := blk_cell KB.out 1
  have fB_1 := blk_frozen KB.out 1
  have cB_2 := blk_cell KB.out 2
  have fB_2 := blk_frozen KB.out 2
  clear cC_0 fC_0 cC_1 fC_1 cC_2 fC_2
  replace KC : Hid (w4.heap[w.heap.size + 1 + 1]? = some (.cells #[.int .i64 s, .int .i64 t, .int .i64 u] 23 (0, 0))) := blk_below (by repeat (first | (with_reducible first | exact KC.out | apply blk_drewN | apply blk_drew | apply blk_alloc) | exact KC.out)) hb4
  have cC_0 := blk_cell KC.out 0
  have fC_0 := blk_frozen KC.out 0
  have cC_1 := blk_cell KC.out 1
  have fC_1 := blk_frozen KC.out 1
  have cC_2 := blk_cell KC.out 2
  have fC_2 := blk_frozen KC.out 2
  clear cP_0 fP_0 cP_1 fP_1 cP_2 fP_2
  replace KP : Hid (w4.heap[w2.heap.size]? = some (.cells #[.int .i64 p1, .int .i64 p2, .int .i64 p3] 23 (0, 0))) := blk_below (by repeat (first | (with_reducible first | exact KP.out | apply blk_drewN | apply blk_drew | apply blk_alloc) | exact KP.out)) hb4
  have cP_0 := blk_cell KP.out 0
  have fP_0 := blk_frozen KP.out 0
  have cP_1 := blk_cell KP.out 1
  have fP_1 := blk_frozen KP.out 1
  have cP_2 := blk_cell KP.out 2
  have fP_2 := blk_frozen KP.out 2
  have cQ_0 := blk_cell KQ.out 0
  have fQ_0 := blk_frozen KQ.out 0
  have cQ_1 := blk_cell KQ.out 1
  have fQ_1 := blk_frozen KQ.out 1
  have cQ_2 := blk_cell KQ.out 2
  have fQ_2 := blk_frozen KQ.out 2
  replace HB : Hid (Below w.heap.size w w4) := below_step (by repeat (first | (with_reducible first | exact HB.out | exact Below.refl _ _ | apply below_alloc | apply bdr | apply below_drew1) | (refine below_set ?_ (by first | omega | (simp; done) | (simp; omega))) | exact HB.out | exact Below.refl _ _)) hb4
  clear hb4
  replace hlA := blk_lt KA.out
  replace hlB := blk_lt KB.out
  replace hlC := blk_lt KC.out
  replace hlP := blk_lt KP.out
  have hlQ := blk_lt KQ.out
  go_wp2_with fail
  clear cQ_0 fQ_0 cQ_1 fQ_1 cQ_2 fQ_2
  clear hlQ KQ
  refine (unit_Mul.calls _ _ _ _ _ _ _ _ _ _ _ (mulF_one a b c H.out)).mono ?_
  rintro e w5 ⟨rfl, hb5⟩
  clear cA_0 fA_0 cA_1 fA_1 cA_2 fA_2
  replace KA : Hid (w5.heap[w.heap.size]? = some (.cells #[.int .i64 a, .int .i64 b, .int .i64 c] 23 (0, 0))) := blk_below (by repeat (first | (with_reducible first | exact KA.out | apply blk_drewN | apply blk_drew | apply blk_alloc) | exact KA.out)) hb5
  have cA_0 := blk_cell KA.out 0
  have fA_0 := blk_frozen KA.out 0
  have cA_1 := blk_cell KA.out 1
  have fA_1 := blk_frozen KA.out 1
  have cA_2 := blk_cell KA.out 2
  have fA_2 := blk_frozen KA.out 2
  clear cB_0 fB_0 cB_1 fB_1 cB_2 fB_2
  replace KB : Hid (w5.heap[w.heap.size + 1]? = some (.cells #[.int .i64 x, .int .i64 y, .int .i64 z] 23 (0, 0))) := blk_below (by repeat (first | (with_reducible first | exact KB.out | apply blk_drewN | apply blk_drew | apply blk_alloc) | exact KB.out)) hb5
  have cB_0 := blk_cell KB.out 0
  have fB_0 := blk_frozen KB.out 0
  have cB_1 := blk_cell KB.out 1
  have fB_1 := blk_frozen KB.out 1
  have cB_2 := blk_cell KB.out 2
  have fB_2 := blk_frozen KB.out 2
  clear cC_0 fC_0 cC_1 fC_1 cC_2 fC_2
  replace KC : Hid (w5.heap[w.heap.size + 1 + 1]? = some (.cells #[.int .i64 s, .int .i64 t, .int .i64 u] 23 (0, 0))) := blk_below (by repeat (first | (with_reducible first | exact KC.out | apply blk_drewN | apply blk_drew | apply blk_alloc) | exact KC.out)) hb5
  have cC_0 := blk_cell KC.out 0
  have fC_0 := blk_frozen KC.out 0
  have cC_1 := blk_cell KC.out 1
  have fC_1 := blk_frozen KC.out 1
  have cC_2 := blk_cell KC.out 2
  have fC_2 := blk_frozen KC.out 2
  clear cP_0 fP_0 cP_1 fP_1 cP_2 fP_2
  replace KP : Hid (w5.heap[w2.heap.size]? = some (.cells #[.int .i64 p1, .int .i64 p2, .int .i64 p3] 23 (0, 0))) := blk_below (by repeat (first | (with_reducible first | exact KP.out | apply blk_drewN | apply blk_drew | apply blk_alloc) | exact KP.out)) hb5
  have cP_0 := blk_cell KP.out 0
  have fP_0 := blk_frozen KP.out 0
  have cP_1 := blk_cell KP.out 1
  have fP_1 := blk_frozen KP.out 1
  have cP_2 := blk_cell KP.out 2
  have fP_2 := blk_frozen KP.out 2
  replace HB : Hid (Below w.heap.size w w5) := below_step (by repeat (first | (with_reducible first | exact HB.out | exact Below.refl _ _ | apply below_alloc | apply bdr | apply below_drew1) | (refine below_set ?_ (by first | omega | (simp; done) | (simp; omega))) | exact HB.out | exact Below.refl _ _)) hb5
  clear hb5
  replace hlA := blk_lt KA.out
  replace hlB := blk_lt KB.out
  replace hlC := blk_lt KC.out
  replace hlP := blk_lt KP.out
  go_wp2_with fail
  refine (unit_Power.calls _ _ _ _ _ _ _ _ _ (powF_back a b c H.out)).mono ?_
  rintro e w6 ⟨rfl, hb6⟩
  have KS : Hid (w6.heap[w5.heap.size]? = some (.cells #[.int .i64 a, .int .i64 b, .int .i64 c] 23 (0, 0))) := blk_below (blk_new w5 (.cells #[.int .i64 a, .int .i64 b, .int .i64 c] 23)) hb6
  clear cA_0 fA_0 cA_1 fA_1 cA_2 fA_2
  replace KA : Hid (w6.heap[w.heap.size]? = some (.cells #[.int .i64 a, .int .i64 b, .int .i64 c] 23 (0, 0))) := blk_below (by repeat (first | (with_reducible first | exact KA.out | apply blk_drewN | apply blk_drew | apply blk_alloc) | exact KA.out)) hb6
  have cA_0 := blk_cell KA.out 0
  have fA_0 := blk_frozen KA.out 0
  have cA_1 := blk_cell KA.out 1
  have fA_1 := blk_frozen KA.out 1
  have cA_2 := blk_cell KA.out 2
  have fA_2 := blk_frozen KA.out 2
  clear cB_0 fB_0 cB_1 fB_1 cB_2 fB_2
  replace KB : Hid (w6.heap[w.heap.size + 1]? = some (.cells #[.int .i64 x, .int .i64 y, .int .i64 z] 23 (0, 0))) := blk_below (by repeat (first | (with_reducible first | exact KB.out | apply blk_drewN | apply blk_drew | apply blk_alloc) | exact KB.out)) hb6
  have cB_0 := blk_cell KB.out 0
  have fB_0 := blk_frozen KB.out 0
  have cB_1 := blk_cell KB.out 1
  have fB_1 := blk_frozen KB.out 1
  have cB_2 := blk_cell KB.out 2
  have fB_2 := blk_frozen KB.out 2
  clear cC_0 fC_0 cC_1 fC_1 cC_2 fC_2
  replace KC : Hid (w6.heap[w.heap.size + 1 + 1]? = some (.cells #[.int .i64 s, .int .i64 t, .int .i64 u] 23 (0, 0))) := blk_below (by repeat (first | (with_reducible first | exact KC.out | apply blk_drewN | apply blk_drew | apply blk_alloc) | exact KC.out)) hb6
  have cC_0 := blk_cell KC.out 0
  have fC_0 := blk_frozen KC.out 0
  have cC_1 := blk_cell KC.out 1
  have fC_1 := blk_frozen KC.out 1
  have cC_2 := blk_cell KC.out 2
  have fC_2 := blk_frozen KC.out 2
  clear cP_0 fP_0 cP_1 fP_1 cP_2 fP_2
  replace KP : Hid (w6.heap[w2.heap.size]? = some (.cells #[.int .i64 p1, .int .i64 p2, .int .i64 p3] 23 (0, 0))) := blk_below (by repeat (first | (with_reducible first | exact KP.out | apply blk_drewN | apply blk_drew | apply blk_alloc) | exact KP.out)) hb6
  have cP_0 := blk_cell KP.out 0
  have fP_0 := blk_frozen KP.out 0
  have cP_1 := blk_cell KP.out 1
  have fP_1 := blk_frozen KP.out 1
  have cP_2 := blk_cell KP.out 2
  have fP_2 := blk_frozen KP.out 2
  have cS_0 := blk_cell KS.out 0
  have fS_0 := blk_frozen KS.out 0
  have cS_1 := blk_cell KS.out 1
  have fS_1 := blk_frozen KS.out 1
  have cS_2 := blk_cell KS.out 2
  have fS_2 := blk_frozen KS.out 2
  replace HB : Hid (Below w.heap.size w w6) := below_step (by repeat (first | (with_reducible first | exact HB.out | exact Below.refl _ _ | apply below_alloc | apply bdr | apply below_drew1) | (refine below_set ?_ (by first | omega | (simp; done) | (simp; omega))) | exact HB.out | exact Below.refl _ _)) hb6
  clear hb6
  replace hlA := blk_lt KA.out
  replace hlB := blk_lt KB.out
  replace hlC := blk_lt KC.out
  replace hlP := blk_lt KP.out
  have hlS := blk_lt KS.out
  go_wp2_with fail
  refine (unit_Mul.calls _ _ _ _ _ _ _ _ _ _ _ (mulF_back a b c H.out)).mono ?_
  rintro e w7 ⟨rfl, hb7⟩
  have KR : Hid (w7.heap[w6.heap.size]? = some (.cells #[.int .i64 (-a), .int .i64 (-b), .int .i64 (-c)] 23 (0, 0))) := blk_below (blk_new w6 (.cells #[.int .i64 (-a), .int .i64 (-b), .int .i64 (-c)] 23)) hb7
  clear cA_0 fA_0 cA_1 fA_1 cA_2 fA_2
  replace KA : Hid (w7.heap[w.heap.size]? = some (.cells #[.int .i64 a, .int .i64 b, .int .i64 c] 23 (0, 0))) := blk_below (by repeat (first | (with_reducible first | exact KA.out | apply blk_drewN | apply blk_drew | apply blk_alloc) | exact KA.out)) hb7
  have cA_0 := blk_cell KA.out 0
  have fA_0 := blk_frozen KA.out 0
  have cA_1 := blk_cell KA.out 1
  have fA_1 := blk_frozen KA.out 1
  have cA_2 := blk_cell KA.out 2
  have fA_2 := blk_frozen KA.out 2
  clear cB_0 fB_0 cB_1 fB_1 cB_2 fB_2
  replace KB : Hid (w7.heap[w.heap.size + 1]? = some (.cells #[.int .i64 x, .int .i64 y, .int .i64 z] 23 (0, 0))) := blk_below (by repeat (first | (with_reducible first | exact KB.out | apply blk_drewN | apply blk_drew | apply blk_alloc) | exact KB.out)) hb7
  have cB_0 := blk_cell KB.out 0
  have fB_0 := blk_frozen KB.out 0
  have cB_1 := blk_cell KB.out 1
  have fB_1 := blk_frozen KB.out 1
  have cB_2 := blk_cell KB.out 2
  have fB_2 := blk_frozen KB.out 2
  clear cC_0 fC_0 cC_1 fC_1 cC_2 fC_2
  replace KC : Hid (w7.heap[w.heap.size + 1 + 1]? = some (.cells #[.int .i64 s, .int .i64 t, .int .i64 u] 23 (0, 0))) := blk_below (by repeat (first | (with_reducible first | exact KC.out | apply blk_drewN | apply blk_drew | apply blk_alloc) | exact KC.out)) hb7
  have cC_0 := blk_cell KC.out 0
  have fC_0 := blk_frozen KC.out 0
  have cC_1 := blk_cell KC.out 1
  have fC_1 := blk_frozen KC.out 1
  have cC_2 := blk_cell KC.out 2
  have fC_2 := blk_frozen KC.out 2
  clear cP_0 fP_0 cP_1 fP_1 cP_2 fP_2
  replace KP : Hid (w7.heap[w2.heap.size]? = some (.cells #[.int .i64 p1, .int .i64 p2, .int .i64 p3] 23 (0, 0))) := blk_below (by repeat (first | (with_reducible first | exact KP.out | apply blk_drewN | apply blk_drew | apply blk_alloc) | exact KP.out)) hb7
  have cP_0 := blk_cell KP.out 0
  have fP_0 := blk_frozen KP.out 0
  have cP_1 := blk_cell KP.out 1
  have fP_1 := blk_frozen KP.out 1
  have cP_2 := blk_cell KP.out 2
  have fP_2 := blk_frozen KP.out 2
  clear cS_0 fS_0 cS_1 fS_1 cS_2 fS_2
  replace KS : Hid (w7.heap[w5.heap.size]? = some (.cells #[.int .i64 a, .int .i64 b, .int .i64 c] 23 (0, 0))) := blk_below (by repeat (first | (with_reducible first | exact KS.out | apply blk_drewN | apply blk_drew | apply blk_alloc) | exact KS.out)) hb7
  have cS_0 := blk_cell KS.out 0
  have fS_0 := blk_frozen KS.out 0
  have cS_1 := blk_cell KS.out 1
  have fS_1 := blk_frozen KS.out 1
  have cS_2 := blk_cell KS.out 2
  have fS_2 := blk_frozen KS.out 2
  have cR_0 := blk_cell KR.out 0
  have fR_0 := blk_frozen KR.out 0
  have cR_1 := blk_cell KR.out 1
  have fR_1 := blk_frozen KR.out 1
  have cR_2 := blk_cell KR.out 2
  have fR_2 := blk_frozen KR.out 2
  replace HB : Hid (Below w.heap.size w w7) := below_step (by repeat (first | (with_reducible first | exact HB.out | exact Below.refl _ _ | apply below_alloc | apply bdr | apply below_drew1) | (refine below_set ?_ (by first | omega | (simp; done) | (simp; omega))) | exact HB.out | exact Below.refl _ _)) hb7
  clear hb7
  replace hlA := blk_lt KA.out
  replace hlB := blk_lt KB.out
  replace hlC := blk_lt KC.out
  replace hlP := blk_lt KP.out
  replace hlS := blk_lt KS.out
  have hlR := blk_lt KR.out
  go_wp2_with fail
  refine (unit_Mul.calls _ _ _ _ _ _ _ _ _ _ _ M3.out).mono ?_
  rintro e w8 ⟨rfl, hb8⟩
  have KO : Hid (w8.heap[w7.heap.size]? = some (.cells #[.int .i64 0, .int .i64 0, .int .i64 0] 23 (0, 0))) := blk_below (blk_new w7 (.cells #[.int .i64 0, .int .i64 0, .int .i64 0] 23)) hb8
  clear cA_0 fA_0 cA_1 fA_1 cA_2 fA_2
  replace KA : Hid (w8.heap[w.heap.size]? = some (.cells #[.int .i64 a, .int .i64 b, .int .i64 c] 23 (0, 0))) := blk_below (by repeat (first | (with_reducible first | exact KA.out | apply blk_drewN | apply blk_drew | apply blk_alloc) | exact KA.out)) hb8
  have cA_0 := blk_cell KA.out 0
  have fA_0 := blk_frozen KA.out 0
  have cA_1 := blk_cell KA.out 1
  have fA_1 := blk_frozen KA.out 1
  have cA_2 := blk_cell KA.out 2
  have fA_2 := blk_frozen KA.out 2
  clear cB_0 fB_0 cB_1 fB_1 cB_2 fB_2
  replace KB : Hid (w8.heap[w.heap.size + 1]? = some (.cells #[.int .i64 x, .int .i64 y, .int .i64 z] 23 (0, 0))) := blk_below (by repeat (first | (with_reducible first | exact KB.out | apply blk_drewN | apply blk_drew | apply blk_alloc) | exact KB.out)) hb8
  have cB_0 := blk_cell KB.out 0
  have fB_0 := blk_frozen KB.out 0
  have cB_1 := blk_cell KB.out 1
  have fB_1 := blk_frozen KB.out 1
  have cB_2 := blk_cell KB.out 2
  have fB_2 := blk_frozen KB.out 2
  clear cC_0 fC_0 cC_1 fC_1 cC_2 fC_2
  replace KC : Hid (w8.heap[w.heap.size + 1 + 1]? = some (.cells #[.int .i64 s, .int .i64 t, .int .i64 u] 23 (0, 0))) := blk_below (by repeat (first | (with_reducible first | exact KC.out | apply blk_drewN | apply blk_drew | apply blk_alloc) | exact KC.out)) hb8
  have cC_0 := blk_cell KC.out 0
  have fC_0 := blk_frozen KC.out 0
  have cC_1 := blk_cell KC.out 1
  have fC_1 := blk_frozen KC.out 1
  have cC_2 := blk_cell KC.out 2
  have fC_2 := blk_frozen KC.out 2
  clear cP_0 fP_0 cP_1 fP_1 cP_2 fP_2
  replace KP : Hid (w8.heap[w2.heap.size]? = some (.cells #[.int .i64 p1, .int .i64 p2, .int .i64 p3] 23 (0, 0))) := blk_below (by repeat (first | (with_reducible first | exact KP.out | apply blk_drewN | apply blk_drew | apply blk_alloc) | exact KP.out)) hb8
  have cP_0 := blk_cell KP.out 0
  have fP_0 := blk_frozen KP.out 0
  have cP_1 := blk_cell KP.out 1
  have fP_1 := blk_frozen KP.out 1
  have cP_2 := blk_cell KP.out 2
  have fP_2 := blk_frozen KP.out 2
  clear cS_0 fS_0 cS_1 fS_1 cS_2 fS_2
  replace KS : Hid (w8.heap[w5.heap.size]? = some (.cells #[.int .i64 a, .int .i64 b, .int .i64 c] 23 (0, 0))) := blk_below (by repeat (first | (with_reducible first | exact KS.out | apply blk_drewN | apply blk_drew | apply blk_alloc) | exact KS.out)) hb8
  have cS_0 := blk_cell KS.out 0
  have fS_0 := blk_frozen KS.out 0
  have cS_1 := blk_cell KS.out 1
  have fS_1 := blk_frozen KS.out 1
  have cS_2 := blk_cell KS.out 2
  have fS_2 := blk_frozen KS.out 2
  clear cR_0 fR_0 cR_1 fR_1 cR_2 fR_2
  replace KR : Hid (w8.heap[w6.heap.size]? = some (.cells #[.int .i64 (-a), .int .i64 (-b), .int .i64 (-c)] 23 (0, 0))) := blk_below (by repeat (first | (with_reducible first | exact KR.out | apply blk_drewN | apply blk_drew | apply blk_alloc) | exact KR.out)) hb8
  have cR_0 := blk_cell KR.out 0
  have fR_0 := blk_frozen KR.out 0
  have cR_1 := blk_cell KR.out 1
  have fR_1 := blk_frozen KR.out 1
  have cR_2 := blk_cell KR.out 2
  have fR_2 := blk_frozen KR.out 2
  have cO_0 := blk_cell KO.out 0
  have fO_0 := blk_frozen KO.out 0
  have cO_1 := blk_cell KO.out 1
  have fO_1 := blk_frozen KO.out 1
  have cO_2 := blk_cell KO.out 2
  have fO_2 := blk_frozen KO.out 2
  replace HB : Hid (Below w.heap.size w w8) := below_step (by repeat (first | (with_reducible first | exact HB.out | exact Below.refl _ _ | apply below_alloc | apply bdr | apply below_drew1) | (refine below_set ?_ (by first | omega | (simp; done) | (simp; omega))) | exact HB.out | exact Below.refl _ _)) hb8
  clear hb8
  replace hlA := blk_lt KA.out
  replace hlB := blk_lt KB.out
  replace hlC := blk_lt KC.out
  replace hlP := blk_lt KP.out
  replace hlS := blk_lt KS.out
  replace hlR := blk_lt KR.out
  have hlO := blk_lt KO.out
  go_wp2_with fail
  clear cS_0 fS_0 cS_1 fS_1 cS_2 fS_2
  clear hlS KS
  clear cR_0 fR_0 cR_1 fR_1 cR_2 fR_2
  clear hlR KR
  clear cO_0 fO_0 cO_1 fO_1 cO_2 fO_2
  clear hlO KO
  clear cB_0 fB_0 cB_1 fB_1 cB_2 fB_2
  clear hlB KB
  refine (unit_Mul.calls _ _ _ _ _ _ _ _ _ _ _ M4.out).mono ?_
  rintro e w9 ⟨rfl, hb9⟩
  have KD : Hid (w9.heap[w8.heap.size]? = some (.cells #[.int .i64 q1, .int .i64 q2, .int .i64 q3] 23 (0, 0))) := blk_below (blk_new w8 (.cells #[.int .i64 q1, .int .i64 q2, .int .i64 q3] 23)) hb9
  clear cA_0 fA_0 cA_1 fA_1 cA_2 fA_2
  replace KA : Hid (w9.heap[w.heap.size]? = some (.cells #[.int .i64 a, .int .i64 b, .int .i64 c] 23 (0, 0))) := blk_below (by repeat (first | (with_reducible first | exact KA.out | apply blk_drewN | apply blk_drew | apply blk_alloc) | exact KA.out)) hb9
  have cA_0 := blk_cell KA.out 0
  have fA_0 := blk_frozen KA.out 0
  have cA_1 := blk_cell KA.out 1
  have fA_1 := blk_frozen KA.out 1
  have cA_2 := blk_cell KA.out 2
  have fA_2 := blk_frozen KA.out 2
  clear cC_0 fC_0 cC_1 fC_1 cC_2 fC_2
  replace KC : Hid (w9.heap[w.heap.size + 1 + 1]? = some (.cells #[.int .i64 s, .int .i64 t, .int .i64 u] 23 (0, 0))) := blk_below (by repeat (first | (with_reducible first | exact KC.out | apply blk_drewN | apply blk_drew | apply blk_alloc) | exact KC.out)) hb9
  have cC_0 := blk_cell KC.out 0
  have fC_0 := blk_frozen KC.out 0
  have cC_1 := blk_cell KC.out 1
  have fC_1 := blk_frozen KC.out 1
  have cC_2 := blk_cell KC.out 2
  have fC_2 := blk_frozen KC.out 2
  clear cP_0 fP_0 cP_1 fP_1 cP_2 fP_2
  replace KP : Hid (w9.heap[w2.heap.size]? = some (.cells #[.int .i64 p1, .int .i64 p2, .int .i64 p3] 23 (0, 0))) := blk_below (by repeat (first | (with_reducible first | exact KP.out | apply blk_drewN | apply blk_drew | apply blk_alloc) | exact KP.out)) hb9
  have cP_0 := blk_cell KP.out 0
  have fP_0 := blk_frozen KP.out 0
  have cP_1 := blk_cell KP.out 1
  have fP_1 := blk_frozen KP.out 1
  have cP_2 := blk_cell KP.out 2
  have fP_2 := blk_frozen KP.out 2
  have cD_0 := blk_cell KD.out 0
  have fD_0 := blk_frozen KD.out 0
  have cD_1 := blk_cell KD.out 1
  have fD_1 := blk_frozen KD.out 1
  have cD_2 := blk_cell KD.out 2
  have fD_2 := blk_frozen KD.out 2
  replace HB : Hid (Below w.heap.size w w9) := below_step (by repeat (first | (with_reducible first | exact HB.out | exact Below.refl _ _ | apply below_alloc | apply bdr | apply below_drew1) | (refine below_set ?_ (by first | omega | (simp; done) | (simp; omega))) | exact HB.out | exact Below.refl _ _)) hb9
  clear hb9
  replace hlA := blk_lt KA.out
  replace hlC := blk_lt KC.out
  replace hlP := blk_lt KP.out
  have hlD := blk_lt KD.out
  go_wp2_with fail
  clear cP_0 fP_0 cP_1 fP_1 cP_2 fP_2
  clear hlP KP
  clear cC_0 fC_0 cC_1 fC_1 cC_2 fC_2
  clear hlC KC
  refine (unit_Mul.calls _ _ _ _ _ _ _ _ _ _ _ M5.out).mono ?_
  rintro e w10 ⟨rfl, hb10⟩
  have KX : Hid (w10.heap[w9.heap.size]? = some (.cells #[.int .i64 r1, .int .i64 r2, .int .i64 r3] 23 (0, 0))) := blk_below (blk_new w9 (.cells #[.int .i64 r1, .int .i64 r2, .int .i64 r3] 23)) hb10
  clear cA_0 fA_0 cA_1 fA_1 cA_2 fA_2
  replace KA : Hid (w10.heap[w.heap.size]? = some (.cells #[.int .i64 a, .int .i64 b, .int .i64 c] 23 (0, 0))) := blk_below (by repeat (first | (with_reducible first | exact KA.out | apply blk_drewN | apply blk_drew | apply blk_alloc) | exact KA.out)) hb10
  have cA_0 := blk_cell KA.out 0
  have fA_0 := blk_frozen KA.out 0
  have cA_1 := blk_cell KA.out 1
  have fA_1 := blk_frozen KA.out 1
  have cA_2 := blk_cell KA.out 2
  have fA_2 := blk_frozen KA.out 2
  clear cD_0 fD_0 cD_1 fD_1 cD_2 fD_2
  replace KD : Hid (w10.heap[w8.heap.size]? = some (.cells #[.int .i64 q1, .int .i64 q2, .int .i64 q3] 23 (0, 0))) := blk_below (by repeat (first | (with_reducible first | exact KD.out | apply blk_drewN | apply blk_drew | apply blk_alloc) | exact KD.out)) hb10
  have cD_0 := blk_cell KD.out 0
  have fD_0 := blk_frozen KD.out 0
  have cD_1 := blk_cell KD.out 1
  have fD_1 := blk_frozen KD.out 1
  have cD_2 := blk_cell KD.out 2
  have fD_2 := blk_frozen KD.out 2
  have cX_0 := blk_cell KX.out 0
  have fX_0 := blk_frozen KX.out 0
  have cX_1 := blk_cell KX.out 1
  have fX_1 := blk_frozen KX.out 1
  have cX_2 := blk_cell KX.out 2
  have fX_2 := blk_frozen KX.out 2
  replace HB : Hid (Below w.heap.size w w10) := below_step (by repeat (first | (with_reducible first | exact HB.out | exact Below.refl _ _ | apply below_alloc | apply bdr | apply below_drew1) | (refine below_set ?_ (by first | omega | (simp; done) | (simp; omega))) | exact HB.out | exact Below.refl _ _)) hb10
  clear hb10
  replace hlA := blk_lt KA.out
  replace hlD := blk_lt KD.out
  have hlX := blk_lt KX.out
  go_wp2_with fail
  go_ret
  exact ⟨rfl, below_alloc HB.out _⟩

set_option maxRecDepth 100000 in
set_option maxHeartbeats 4000000 in
theorem group_l (a b c x y z s t u : Int) (w : World) (hT : Tabs w) (p1 p2 p3 q1 q2 q3 r1 r2 r3 s1 s2 s3 e j k l : Int) (h : okU a b c) (m1 : unit_Mul.f a b c x y z = some (p1, p2, p3, 0)) (m3 : unit_Mul.f x y z s t u = some (q1, q2, q3, 0)) (m4 : unit_Mul.f p1 p2 p3 s t u = some (r1, r2, r3, 0)) (m5 : unit_Mul.f a b c q1 q2 q3 = some (s1, s2, s3, l)) (zl : ¬ l = 0) :
    Calls Tryd.prog 4 #[.agg #[.int .i64 a, .int .i64 b, .int .i64 c], .agg #[.int .i64 x, .int .i64 y, .int .i64 z], .agg #[.int .i64 s, .int .i64 t, .int .i64 u]] w fun e w' => e = .returned (.bool true) ∧ Below w.heap.size w w' := by
  have HT := Lib.hid hT
  clear hT
  have H := Lib.hid h
  clear h
  have M1 := Lib.hid m1
  clear m1
  have M3 := Lib.hid m3
  clear m3
  have M4 := Lib.hid m4
  clear m4
  have M5 := Lib.hid m5
  clear m5
  have zl1 : (l == 0) = false := by simpa using zl
  have zl2 : (l != 0) = true := by simpa using zl
  have h3 := alloc3_blk w (.cells #[.int .i64 a, .int .i64 b, .int .i64 c] 23) (.cells #[.int .i64 x, .int .i64 y, .int .i64 z] 23) (.cells #[.int .i64 s, .int .i64 t, .int .i64 u] 23)
  go_enter Tryd.func4, Tryd.ntmps4
  go_wp2_with fail
  refine (head.calls true _ (((HT.out.alloc _).alloc _).alloc _) rfl).mono ?_
  rintro e w1 ⟨rfl, hb1⟩
  have KA : Hid (w1.heap[w.heap.size]? = some (.cells #[.int .i64 a, .int .i64 b, .int .i64 c] 23 (0, 0))) := blk_below h3.1 hb1
  have KB : Hid (w1.heap[w.heap.size + 1]? = some (.cells #[.int .i64 x, .int .i64 y, .int .i64 z] 23 (0, 0))) := blk_below h3.2.1 hb1
  have KC : Hid (w1.heap[w.heap.size + 1 + 1]? = some (.cells #[.int .i64 s, .int .i64 t, .int .i64 u] 23 (0, 0))) := blk_below h3.2.2 hb1
  have cA_0 := blk_cell KA.out 0
  have fA_0 := blk_frozen KA.out 0
  have cA_1 := blk_cell KA.out 1
  have fA_1 := blk_frozen KA.out 1
  have cA_2 := blk_cell KA.out 2
  have fA_2 := blk_frozen KA.out 2
  have cB_0 := blk_cell KB.out 0
  have fB_0 := blk_frozen KB.out 0
  have cB_1 := blk_cell KB.out 1
  have fB_1 := blk_frozen KB.out 1
  have cB_2 := blk_cell KB.out 2
  have fB_2 := blk_frozen KB.out 2
  have cC_0 := blk_cell KC.out 0
  have fC_0 := blk_frozen KC.out 0
  have cC_1 := blk_cell KC.out 1
  have fC_1 := blk_frozen KC.out 1
  have cC_2 := blk_cell KC.out 2
  have fC_2 := blk_frozen KC.out 2
  have HB : Hid (Below w.heap.size w w1) := below_step (by repeat (first | (with_reducible first | exact HB.out | exact Below.refl _ _ | apply below_alloc | apply bdr | apply below_drew1) | (refine below_set ?_ (by first | omega | (simp; done) | (simp; omega))) | exact HB.out | exact Below.refl _ _)) hb1
  clear hb1
  clear h3
  have hlA := blk_lt KA.out
  have hlB := blk_lt KB.out
  have hlC := blk_lt KC.out
  go_wp2_with fail
  refine (unit_Mul.calls _ _ _ _ _ _ _ _ _ _ _ M1.out).mono ?_
  rintro e w2 ⟨rfl, hb2⟩
  clear cA_0 fA_0 cA_1 fA_1 cA_2 fA_2
  replace KA : Hid (w2.heap[w.heap.size]? = some (.cells #[.int .i64 a, .int .i64 b, .int .i64 c] 23 (0, 0))) := blk_below (by repeat (first | (with_reducible first | exact KA.out | apply blk_drewN | apply blk_drew | apply blk_alloc) | exact KA.out)) hb2
  have cA_0 := blk_cell KA.out 0
  have fA_0 := blk_frozen KA.out 0
  have cA_1 := blk_cell KA.out 1
  have fA_1 := blk_frozen KA.out 1
  have cA_2 := blk_cell KA.out 2
  have fA_2 := blk_frozen KA.out 2
  clear cB_0 fB_0 cB_1 fB_1 cB_2 fB_2
  replace KB : Hid (w2.heap[w.heap.size + 1]? = some (.cells #[.int .i64 x, .int .i64 y, .int .i64 z] 23 (0, 0))) := blk_below (by repeat (first | (with_reducible first | exact KB.out | apply blk_drewN | apply blk_drew | apply blk_alloc) | exact KB.out)) hb2
  have cB_0 := blk_cell KB.out 0
  have fB_0 := blk_frozen KB.out 0
  have cB_1 := blk_cell KB.out 1
  have fB_1 := blk_frozen KB.out 1
  have cB_2 := blk_cell KB.out 2
  have fB_2 := blk_frozen KB.out 2
  clear cC_0 fC_0 cC_1 fC_1 cC_2 fC_2
  replace KC : Hid (w2.heap[w.heap.size + 1 + 1]? = some (.cells #[.int .i64 s, .int .i64 t, .int .i64 u] 23 (0, 0))) := blk_below (by repeat (first | (with_reducible first | exact KC.out | apply blk_drewN | apply blk_drew | apply blk_alloc) | exact KC.out)) hb2
  have cC_0 := blk_cell KC.out 0
  have fC_0 := blk_frozen KC.out 0
  have cC_1 := blk_cell KC.out 1
  have fC_1 := blk_frozen KC.out 1
  have cC_2 := blk_cell KC.out 2
  have fC_2 := blk_frozen KC.out 2
  replace HB : Hid (Below w.heap.size w w2) := below_step (by repeat (first | (with_reducible first | exact HB.out | exact Below.refl _ _ | apply below_alloc | apply bdr | apply below_drew1) | (refine below_set ?_ (by first | omega | (simp; done) | (simp; omega))) | exact HB.out | exact Below.refl _ _)) hb2
  clear hb2
  replace hlA := blk_lt KA.out
  replace hlB := blk_lt KB.out
  replace hlC := blk_lt KC.out
  go_wp2_with fail
  refine (unit_Mul.calls _ _ _ _ _ _ _ _ _ _ _ ((mulF_comm a b c x y z).trans M1.out)).mono ?_
  rintro e w3 ⟨rfl, hb3⟩
  have KP : Hid (w3.heap[w2.heap.size]? = some (.cells #[.int .i64 p1, .int .i64 p2, .int .i64 p3] 23 (0, 0))) := blk_below (blk_new w2 (.cells #[.int .i64 p1, .int .i64 p2, .int .i64 p3] 23)) hb3
  clear cA_0 fA_0 cA_1 fA_1 cA_2 fA_2
  replace KA : Hid (w3.heap[w.heap.size]? = some (.cells #[.int .i64 a, .int .i64 b, .int .i64 c] 23 (0, 0))) := blk_below (by repeat (first | (with_reducible first | exact KA.out | apply blk_drewN | apply blk_drew | apply blk_alloc) | exact KA.out)) hb3
  have cA_0 := blk_cell KA.out 0
  have fA_0 := blk_frozen KA.out 0
  have cA_1 := blk_cell KA.out 1
  have fA_1 := blk_frozen KA.out 1
  have cA_2 := blk_cell KA.out 2
  have fA_2 := blk_frozen KA.out 2
  clear cB_0 fB_0 cB_1 fB_1 cB_2 fB_2
  replace KB : Hid (w3.heap[w.heap.size + 1]? = some (.cells #[.int .i64 x, .int .i64 y, .int .i64 z] 23 (0, 0))) := blk_below (by repeat (first | (with_reducible first | exact KB.out | apply blk_drewN | apply blk_drew | apply blk_alloc) | exact KB.out)) hb3
  have cB_0 := blk_cell KB.out 0
  have fB_0 := blk_frozen KB.out 0
  have cB_1 := blk_cell KB.out 1
  have fB_1 := blk_frozen KB.out 1
  have cB_2 := blk_cell KB.out 2
  have fB_2 := blk_frozen KB.out 2
  clear cC_0 fC_0 cC_1 fC_1 cC_2 fC_2
  replace KC : Hid (w3.heap[w.heap.size + 1 + 1]? = some (.cells #[.int .i64 s, .int .i64 t, .int .i64 u] 23 (0, 0))) := blk_below (by repeat (first | (with_reducible first | exact KC.out | apply blk_drewN | apply blk_drew | apply blk_alloc) | exact KC.out)) hb3
  have cC_0 := blk_cell KC.out 0
  have fC_0 := blk_frozen KC.out 0
  have cC_1 := blk_cell KC.out 1
  have fC_1 := blk_frozen KC.out 1
  have cC_2 := blk_cell KC.out 2
  have fC_2 := blk_frozen KC.out 2
  have cP_0 := blk_cell KP.out 0
  have fP_0 := blk_frozen KP.out 0
  have cP_1 := blk_cell KP.out 1
  have fP_1 := blk_frozen KP.out 1
  have cP_2 := blk_cell KP.out 2
  have fP_2 := blk_frozen KP.out 2
  replace HB : Hid (Below w.heap.size w w3) := below_step (by repeat (first | (with_reducible first | exact HB.out | exact Below.refl _ _ | apply below_alloc | apply bdr | apply below_drew1) | (refine below_set ?_ (by first | omega | (simp; done) | (simp; omega))) | exact HB.out | exact Below.refl _ _)) hb3
  clear hb3
  replace hlA := blk_lt KA.out
  replace hlB := blk_lt KB.out
  replace hlC := blk_lt KC.out
  have hlP := blk_lt KP.out
  go_wp2_with fail
  refine (unit_Text.calls _ _ _ _ _ _ ((HT.out.below HB.out).alloc _) (textF_ok a b c H.out)).mono ?_
  rintro e w4 ⟨rfl, hb4⟩
  have KQ : Hid (w4.heap[w3.heap.size]? = some (.cells #[.int .i64 p1, .int .i64 p2, .int .i64 p3] 23 (0, 0))) := blk_below (blk_new w3 (.cells #[.int .i64 p1, .int .i64 p2, .int .i64 p3] 23)) hb4
  clear cA_0 fA_0 cA_1 fA_1 cA_2 fA_2
  replace KA : Hid (w4.heap[w.heap.size]? = some (.cells #[.int .i64 a, .int .i64 b, .int .i64 c] 23 (0, 0))) := blk_below (by repeat (first | (with_reducible first | exact KA.out | apply blk_drewN | apply blk_drew | apply blk_alloc) | exact KA.out)) hb4
  have cA_0 := blk_cell KA.out 0
  have fA_0 := blk_frozen KA.out 0
  have cA_1 := blk_cell KA.out 1
  have fA_1 := blk_frozen KA.out 1
  have cA_2 := blk_cell KA.out 2
  have fA_2 := blk_frozen KA.out 2
  clear cB_0 fB_0 cB_1 fB_1 cB_2 fB_2
  replace KB : Hid (w4.heap[w.heap.size + 1]? = some (.cells #[.int .i64 x, .int .i64 y, .int .i64 z] 23 (0, 0))) := blk_below (by repeat (first | (with_reducible first | exact KB.out | apply blk_drewN | apply blk_drew | apply blk_alloc) | exact KB.out)) hb4
  have cB_0 := blk_cell KB.out 0
  have fB_0 := blk_frozen KB.out 0
  have cB_1 := blk_cell KB.out 1
  have fB_1 := blk_frozen KB.out 1
  have cB_2 := blk_cell KB.out 2
  have fB_2 := blk_frozen KB.out 2
  clear cC_0 fC_0 cC_1 fC_1 cC_2 fC_2
  replace KC : Hid (w4.heap[w.heap.size + 1 + 1]? = some (.cells #[.int .i64 s, .int .i64 t, .int .i64 u] 23 (0, 0))) := blk_below (by repeat (first | (with_reducible first | exact KC.out | apply blk_drewN | apply blk_drew | apply blk_alloc) | exact KC.out)) hb4
  have cC_0 := blk_cell KC.out 0
  have fC_0 := blk_frozen KC.out 0
  have cC_1 := blk_cell KC.out 1
  have fC_1 := blk_frozen KC.out 1
  have cC_2 := blk_cell KC.out 2
  have fC_2 := blk_frozen KC.out 2
  clear cP_0 fP_0 cP_1 fP_1 cP_2 fP_2
  replace KP : Hid (w4.heap[w2.heap.size]? = some (.cells #[.int .i64 p1, .int .i64 p2, .int .i64 p3] 23 (0, 0))) := blk_below (by repeat (first | (with_reducible first | exact KP.out | apply blk_drewN | apply blk_drew | apply blk_alloc) | exact KP.out)) hb4
  have cP_0 := blk_cell KP.out 0
  have fP_0 := blk_frozen KP.out 0
  have cP_1 := blk_cell KP.out 1
  have fP_1 := blk_frozen KP.out 1
  have cP_2 := blk_cell KP.out 2
  have fP_2 := blk_frozen KP.out 2
  have cQ_0 := blk_cell KQ.out 0
  have fQ_0 := blk_frozen KQ.out 0
  have cQ_1 := blk_cell KQ.out 1
  have fQ_1 := blk_frozen KQ.out 1
  have cQ_2 := blk_cell KQ.out 2
  have fQ_2 := blk_frozen KQ.out 2
  replace HB : Hid (Below w.heap.size w w4) := below_step (by repeat (first | (with_reducible first | exact HB.out | exact Below.refl _ _ | apply below_alloc | apply bdr | apply below_drew1) | (refine below_set ?_ (by first | omega | (simp; done) | (simp; omega))) | exact HB.out | exact Below.refl _ _)) hb4
  clear hb4
  replace hlA := blk_lt KA.out
  replace hlB := blk_lt KB.out
  replace hlC := blk_lt KC.out
  replace hlP := blk_lt KP.out
  have hlQ := blk_lt KQ.out
  go_wp2_with fail
  clear cQ_0 fQ_0 cQ_1 fQ_1 cQ_2 fQ_2
  clear hlQ KQ
  refine (unit_Mul.calls _ _ _ _ _ _ _ _ _ _ _ (mulF_one a b c H.out)).mono ?_
  rintro e w5 ⟨rfl, hb5⟩
  clear cA_0 fA_0 cA_1 fA_1 cA_2 fA_2
  replace KA : Hid (w5.heap[w.heap.size]? = some (.cells #[.int .i64 a, .int .i64 b, .int .i64 c] 23 (0, 0))) := blk_below (by repeat (first | (with_reducible first | exact KA.out | apply blk_drewN | apply blk_drew | apply blk_alloc) | exact KA.out)) hb5
  have cA_0 := blk_cell KA.out 0
  have fA_0 := blk_frozen KA.out 0
  have cA_1 := blk_cell KA.out 1
  have fA_1 := blk_frozen KA.out 1
  have cA_2 := blk_cell KA.out 2
  have fA_2 := blk_frozen KA.out 2
  clear cB_0 fB_0 cB_1 fB_1 cB_2 fB_2
  replace KB : Hid (w5.heap[w.heap.size + 1]? = some (.cells #[.int .i64 x, .int .i64 y, .int .i64 z] 23 (0, 0))) := blk_below (by repeat (first | (with_reducible first | exact KB.out | apply blk_drewN | apply blk_drew | apply blk_alloc) | exact KB.out)) hb5
  have cB_0 := blk_cell KB.out 0
  have fB_0 := blk_frozen KB.out 0
  have cB_1 := blk_cell KB.out 1
  have fB_1 := blk_frozen KB.out 1
  have cB_2 := blk_cell KB.out 2
  have fB_2 := blk_frozen KB.out 2
  clear cC_0 fC_0 cC_1 fC_1 cC_2 fC_2
  replace KC : Hid (w5.heap[w.heap.size + 1 + 1]? = some (.cells #[.int .i64 s, .int .i64 t, .int .i64 u] 23 (0, 0))) := blk_below (by repeat (first | (with_reducible first | exact KC.out | apply blk_drewN | apply blk_drew | apply blk_alloc) | exact KC.out)) hb5
  have cC_0 := blk_cell KC.out 0
  have fC_0 := blk_frozen KC.out 0
  have cC_1 := blk_cell KC.out 1
  have fC_1 := blk_frozen KC.out 1
  have cC_2 := blk_cell KC.out 2
  have fC_2 := blk_frozen KC.out 2
  clear cP_0 fP_0 cP_1 fP_1 cP_2 fP_2
  replace KP : Hid (w5.heap[w2.heap.size]? = some (.cells #[.int .i64 p1, .int .i64 p2, .int .i64 p3] 23 (0, 0))) := blk_below (by repeat (first | (with_reducible first | exact KP.out | apply blk_drewN | apply blk_drew | apply blk_alloc) | exact KP.out)) hb5
  have cP_0 := blk_cell KP.out 0
  have fP_0 := blk_frozen KP.out 0
  have cP_1 := blk_cell KP.out 1
  have fP_1 := blk_frozen KP.out 1
  have cP_2 := blk_cell KP.out 2
  have fP_2 := blk_frozen KP.out 2
  replace HB : Hid (Below w.heap.size w w5) := below_step (by repeat (first | (with_reducible first | exact HB.out | exact Below.refl _ _ | apply below_alloc | apply bdr | apply below_drew1) | (refine below_set ?_ (by first | omega | (simp; done) | (simp; omega))) | exact HB.out | exact Below.refl _ _)) hb5
  clear hb5
  replace hlA := blk_lt KA.out
  replace hlB := blk_lt KB.out
  replace hlC := blk_lt KC.out
  replace hlP := blk_lt KP.out
  go_wp2_with fail
  refine (unit_Power.calls _ _ _ _ _ _ _ _ _ (powF_back a b c H.out)).mono ?_
  rintro e w6 ⟨rfl, hb6⟩
  have KS : Hid (w6.heap[w5.heap.size]? = some (.cells #[.int .i64 a, .int .i64 b, .int .i64 c] 23 (0, 0))) := blk_below (blk_new w5 (.cells #[.int .i64 a, .int .i64 b, .int .i64 c] 23)) hb6
  clear cA_0 fA_0 cA_1 fA_1 cA_2 fA_2
  replace KA : Hid (w6.heap[w.heap.size]? = some (.cells #[.int .i64 a, .int .i64 b, .int .i64 c] 23 (0, 0))) := blk_below (by repeat (first | (with_reducible first | exact KA.out | apply blk_drewN | apply blk_drew | apply blk_alloc) | exact KA.out)) hb6
  have cA_0 := blk_cell KA.out 0
  have fA_0 := blk_frozen KA.out 0
  have cA_1 := blk_cell KA.out 1
  have fA_1 := blk_frozen KA.out 1
  have cA_2 := blk_cell KA.out 2
  have fA_2 := blk_frozen KA.out 2
  clear cB_0 fB_0 cB_1 fB_1 cB_2 fB_2
  replace KB : Hid (w6.heap[w.heap.size + 1]? = some (.cells #[.int .i64 x, .int .i64 y, .int .i64 z] 23 (0, 0))) := blk_below (by repeat (first | (with_reducible first | exact KB.out | apply blk_drewN | apply blk_drew | apply blk_alloc) | exact KB.out)) hb6
  have cB_0 := blk_cell KB.out 0
  have fB_0 := blk_frozen KB.out 0
  have cB_1 := blk_cell KB.out 1
  have fB_1 := blk_frozen KB.out 1
  have cB_2 := blk_cell KB.out 2
  have fB_2 := blk_frozen KB.out 2
  clear cC_0 fC_0 cC_1 fC_1 cC_2 fC_2
  replace KC : Hid (w6.heap[w.heap.size + 1 + 1]? = some (.cells #[.int .i64 s, .int .i64 t, .int .i64 u] 23 (0, 0))) := blk_below (by repeat (first | (with_reducible first | exact KC.out | apply blk_drewN | apply blk_drew | apply blk_alloc) | exact KC.out)) hb6
  have cC_0 := blk_cell KC.out 0
  have fC_0 := blk_frozen KC.out 0
  have cC_1 := blk_cell KC.out 1
  have fC_1 := blk_frozen KC.out 1
  have cC_2 := blk_cell KC.out 2
  have fC_2 := blk_frozen KC.out 2
  clear cP_0 fP_0 cP_1 fP_1 cP_2 fP_2
  replace KP : Hid (w6.heap[w2.heap.size]? = some (.cells #[.int .i64 p1, .int .i64 p2, .int .i64 p3] 23 (0, 0))) := blk_below (by repeat (first | (with_reducible first | exact KP.out | apply blk_drewN | apply blk_drew | apply blk_alloc) | exact KP.out)) hb6
  have cP_0 := blk_cell KP.out 0
  have fP_0 := blk_frozen KP.out 0
  have cP_1 := blk_cell KP.out 1
  have fP_1 := blk_frozen KP.out 1
  have cP_2 := blk_cell KP.out 2
  have fP_2 := blk_frozen KP.out 2
  have cS_0 := blk_cell KS.out 0
  have fS_0 := blk_frozen KS.out 0
  have cS_1 := blk_cell KS.out 1
  have fS_1 := blk_frozen KS.out 1
  have cS_2 := blk_cell KS.out 2
  have fS_2 := blk_frozen KS.out 2
  replace HB : Hid (Below w.heap.size w w6) := below_step (by repeat (first | (with_reducible first | exact HB.out | exact Below.refl _ _ | apply below_alloc | apply bdr | apply below_drew1) | (refine below_set ?_ (by first | omega | (simp; done) | (simp; omega))) | exact HB.out | exact Below.refl _ _)) hb6
  clear hb6
  replace hlA := blk_lt KA.out
  replace hlB := blk_lt KB.out
  replace hlC := blk_lt KC.out
  replace hlP := blk_lt KP.out
  have hlS := blk_lt KS.out
  go_wp2_with fail
  refine (unit_Mul.calls _ _ _ _ _ _ _ _ _ _ _ (mulF_back a b c H.out)).mono ?_
  rintro e w7 ⟨rfl, hb7⟩
  have KR : Hid (w7.heap[w6.heap.size]? = some (.cells #[.int .i64 (-a), .int .i64 (-b), .int .i64 (-c)] 23 (0, 0))) := blk_below (blk_new w6 (.cells #[.int .i64 (-a), .int .i64 (-b), .int .i64 (-c)] 23)) hb7
  clear cA_0 fA_0 cA_1 fA_1 cA_2 fA_2
  replace KA : Hid (w7.heap[w.heap.size]? = some (.cells #[.int .i64 a, .int .i64 b, .int .i64 c] 23 (0, 0))) := blk_below (by repeat (first | (with_reducible first | exact KA.out | apply blk_drewN | apply blk_drew | apply blk_alloc) | exact KA.out)) hb7
  have cA_0 := blk_cell KA.out 0
  have fA_0 := blk_frozen KA.out 0
  have cA_1 := blk_cell KA.out 1
  have fA_1 := blk_frozen KA.out 1
  have cA_2 := blk_cell KA.out 2
  have fA_2 := blk_frozen KA.out 2
  clear cB_0 fB_0 cB_1 fB_1 cB_2 fB_2
  replace KB : Hid (w7.heap[w.heap.size + 1]? = some (.cells #[.int .i64 x, .int .i64 y, .int .i64 z] 23 (0, 0))) := blk_below (by repeat (first | (with_reducible first | exact KB.out | apply blk_drewN | apply blk_drew | apply blk_alloc) | exact KB.out)) hb7
  have cB_0 := blk_cell KB.out 0
  have fB_0 := blk_frozen KB.out 0
  have cB_1 := blk_cell KB.out 1
  have fB_1 := blk_frozen KB.out 1
  have cB_2 := blk_cell KB.out 2
  have fB_2 := blk_frozen KB.out 2
  clear cC_0 fC_0 cC_1 fC_1 cC_2 fC_2
  replace KC : Hid (w7.heap[w.heap.size + 1 + 1]? = some (.cells #[.int .i64 s, .int .i64 t, .int .i64 u] 23 (0, 0))) := blk_below (by repeat (first | (with_reducible first | exact KC.out | apply blk_drewN | apply blk_drew | apply blk_alloc) | exact KC.out)) hb7
  have cC_0 := blk_cell KC.out 0
  have fC_0 := blk_frozen KC.out 0
  have cC_1 := blk_cell KC.out 1
  have fC_1 := blk_frozen KC.out 1
  have cC_2 := blk_cell KC.out 2
  have fC_2 := blk_frozen KC.out 2
  clear cP_0 fP_0 cP_1 fP_1 cP_2 fP_2
  replace KP : Hid (w7.heap[w2.heap.size]? = some (.cells #[.int .i64 p1, .int .i64 p2, .int .i64 p3] 23 (0, 0))) := blk_below (by repeat (first | (with_reducible first | exact KP.out | apply blk_drewN | apply blk_drew | apply blk_alloc) | exact KP.out)) hb7
  have cP_0 := blk_cell KP.out 0
  have fP_0 := blk_frozen KP.out 0
  have cP_1 := blk_cell KP.out 1
  have fP_1 := blk_frozen KP.out 1
  have cP_2 := blk_cell KP.out 2
  have fP_2 := blk_frozen KP.out 2
  clear cS_0 fS_0 cS_1 fS_1 cS_2 fS_2
  replace KS : Hid (w7.heap[w5.heap.size]? = some (.cells #[.int .i64 a, .int .i64 b, .int .i64 c] 23 (0, 0))) := blk_below (by repeat (first | (with_reducible first | exact KS.out | apply blk_drewN | apply blk_drew | apply blk_alloc) | exact KS.out)) hb7
  have cS_0 := blk_cell KS.out 0
  have fS_0 := blk_frozen KS.out 0
  have cS_1 := blk_cell KS.out 1
  have fS_1 := blk_frozen KS.out 1
  have cS_2 := blk_cell KS.out 2
  have fS_2 := blk_frozen KS.out 2
  have cR_0 := blk_cell KR.out 0
  have fR_0 := blk_frozen KR.out 0
  have cR_1 := blk_cell KR.out 1
  have fR_1 := blk_frozen KR.out 1
  have cR_2 := blk_cell KR.out 2
  have fR_2 := blk_frozen KR.out 2
  replace HB : Hid (Below w.heap.size w w7) := below_step (by repeat (first | (with_reducible first | exact HB.out | exact Below.refl _ _ | apply below_alloc | apply bdr | apply below_drew1) | (refine below_set ?_ (by first | omega | (simp; done) | (simp; omega))) | exact HB.out | exact Below.refl _ _)) hb7
  clear hb7
  replace hlA := blk_lt KA.out
  replace hlB := blk_lt KB.out
  replace hlC := blk_lt KC.out
  replace hlP := blk_lt KP.out
  replace hlS := blk_lt KS.out
  have hlR := blk_lt KR.out
  go_wp2_with fail
  refine (unit_Mul.calls _ _ _ _ _ _ _ _ _ _ _ M3.out).mono ?_
  rintro e w8 ⟨rfl, hb8⟩
  have KO : Hid (w8.heap[w7.heap.size]? = some (.cells #[.int .i64 0, .int .i64 0, .int .i64 0] 23 (0, 0))) := blk_below (blk_new w7 (.cells #[.int .i64 0, .int .i64 0, .int .i64 0] 23)) hb8
  clear cA_0 fA_0 cA_1 fA_1 cA_2 fA_2
  replace KA : Hid (w8.heap[w.heap.size]? = some (.cells #[.int .i64 a, .int .i64 b, .int .i64 c] 23 (0, 0))) := blk_below (by repeat (first | (with_reducible first | exact KA.out | apply blk_drewN | apply blk_drew | apply blk_alloc) | exact KA.out)) hb8
  have cA_0 := blk_cell KA.out 0
  have fA_0 := blk_frozen KA.out 0
  have cA_1 := blk_cell KA.out 1
  have fA_1 := blk_frozen KA.out 1
  have cA_2 := blk_cell KA.out 2
  have fA_2 := blk_frozen KA.out 2
  clear cB_0 fB_0 cB_1 fB_1 cB_2 fB_2
  replace KB : Hid (w8.heap[w.heap.size + 1]? = some (.cells #[.int .i64 x, .int .i64 y, .int .i64 z] 23 (0, 0))) := blk_below (by repeat (first | (with_reducible first | exact KB.out | apply blk_drewN | apply blk_drew | apply blk_alloc) | exact KB.out)) hb8
  have cB_0 := blk_cell KB.out 0
  have fB_0 := blk_frozen KB.out 0
  have cB_1 := blk_cell KB.out 1
  have fB_1 := blk_frozen KB.out 1
  have cB_2 := blk_cell KB.out 2
  have fB_2 := blk_frozen KB.out 2
  clear cC_0 fC_0 cC_1 fC_1 cC_2 fC_2
  replace KC : Hid (w8.heap[w.heap.size + 1 + 1]? = some (.cells #[.int .i64 s, .int .i64 t, .int .i64 u] 23 (0, 0))) := blk_below (by repeat (first | (with_reducible first | exact KC.out | apply blk_drewN | apply blk_drew | apply blk_alloc) | exact KC.out)) hb8
  have cC_0 := blk_cell KC.out 0
  have fC_0 := blk_frozen KC.out 0
  have cC_1 := blk_cell KC.out 1
  have fC_1 := blk_frozen KC.out 1
  have cC_2 := blk_cell KC.out 2
  have fC_2 := blk_frozen KC.out 2
  clear cP_0 fP_0 cP_1 fP_1 cP_2 fP_2
  replace KP : Hid (w8.heap[w2.heap.size]? = some (.cells #[.int .i64 p1, .int .i64 p2, .int .i64 p3] 23 (0, 0))) := blk_below (by repeat (first | (with_reducible first | exact KP.out | apply blk_drewN | apply blk_drew | apply blk_alloc) | exact KP.out)) hb8
  have cP_0 := blk_cell KP.out 0
  have fP_0 := blk_frozen KP.out 0
  have cP_1 := blk_cell KP.out 1
  have fP_1 := blk_frozen KP.out 1
  have cP_2 := blk_cell KP.out 2
  have fP_2 := blk_frozen KP.out 2
  clear cS_0 fS_0 cS_1 fS_1 cS_2 fS_2
  replace KS : Hid (w8.heap[w5.heap.size]? = some (.cells #[.int .i64 a, .int .i64 b, .int .i64 c] 23 (0, 0))) := blk_below (by repeat (first | (with_reducible first | exact KS.out | apply blk_drewN | apply blk_drew | apply blk_alloc) | exact KS.out)) hb8
  have cS_0 := blk_cell KS.out 0
  have fS_0 := blk_frozen KS.out 0
  have cS_1 := blk_cell KS.out 1
  have fS_1 := blk_frozen KS.out 1
  have cS_2 := blk_cell KS.out 2
  have fS_2 := blk_frozen KS.out 2
  clear cR_0 fR_0 cR_1 fR_1 cR_2 fR_2
  replace KR : Hid (w8.heap[w6.heap.size]? = some (.cells #[.int .i64 (-a), .int .i64 (-b), .int .i64 (-c)] 23 (0, 0))) := blk_below (by repeat (first | (with_reducible first | exact KR.out | apply blk_drewN | apply blk_drew | apply blk_alloc) | exact KR.out)) hb8
  have cR_0 := blk_cell KR.out 0
  have fR_0 := blk_frozen KR.out 0
  have cR_1 := blk_cell KR.out 1
  have fR_1 := blk_frozen KR.out 1
  have cR_2 := blk_cell KR.out 2
  have fR_2 := blk_frozen KR.out 2
  have cO_0 := blk_cell KO.out 0
  have fO_0 := blk_frozen KO.out 0
  have cO_1 := blk_cell KO.out 1
  have fO_1 := blk_frozen KO.out 1
  have cO_2 := blk_cell KO.out 2
  have fO_2 := blk_frozen KO.out 2
  replace HB : Hid (Below w.heap.size w w8) := below_step (by repeat (first | (with_reducible first | exact HB.out | exact Below.refl _ _ | apply below_alloc | apply bdr | apply below_drew1) | (refine below_set ?_ (by first | omega | (simp; done) | (simp; omega))) | exact HB.out | exact Below.refl _ _)) hb8
  clear hb8
  replace hlA := blk_lt KA.out
  replace hlB := blk_lt KB.out
  replace hlC := blk_lt KC.out
  replace hlP := blk_lt KP.out
  replace hlS := blk_lt KS.out
  replace hlR := blk_lt KR.out
  have hlO := blk_lt KO.out
  go_wp2_with fail
  clear cS_0 fS_0 cS_1 fS_1 cS_2 fS_2
  clear hlS KS
  clear cR_0 fR_0 cR_1 fR_1 cR_2 fR_2
  clear hlR KR
  clear cO_0 fO_0 cO_1 fO_1 cO_2 fO_2
  clear hlO KO
  clear cB_0 fB_0 cB_1 fB_1 cB_2 fB_2
  clear hlB KB
  refine (unit_Mul.calls _ _ _ _ _ _ _ _ _ _ _ M4.out).mono ?_
  rintro e w9 ⟨rfl, hb9⟩
  have KD : Hid (w9.heap[w8.heap.size]? = some (.cells #[.int .i64 q1, .int .i64 q2, .int .i64 q3] 23 (0, 0))) := blk_below (blk_new w8 (.cells #[.int .i64 q1, .int .i64 q2, .int .i64 q3] 23)) hb9
  clear cA_0 fA_0 cA_1 fA_1 cA_2 fA_2
  replace KA : Hid (w9.heap[w.heap.size]? = some (.cells #[.int .i64 a, .int .i64 b, .int .i64 c] 23 (0, 0))) := blk_below (by repeat (first | (with_reducible first | exact KA.out | apply blk_drewN | apply blk_drew | apply blk_alloc) | exact KA.out)) hb9
  have cA_0 := blk_cell KA.out 0
  have fA_0 := blk_frozen KA.out 0
  have cA_1 := blk_cell KA.out 1
  have fA_1 := blk_frozen KA.out 1
  have cA_2 := blk_cell KA.out 2
  have fA_2 := blk_frozen KA.out 2
  clear cC_0 fC_0 cC_1 fC_1 cC_2 fC_2
  replace KC : Hid (w9.heap[w.heap.size + 1 + 1]? = some (.cells #[.int .i64 s, .int .i64 t, .int .i64 u] 23 (0, 0))) := blk_below (by repeat (first | (with_reducible first | exact KC.out | apply blk_drewN | apply blk_drew | apply blk_alloc) | exact KC.out)) hb9
  have cC_0 := blk_cell KC.out 0
  have fC_0 := blk_frozen KC.out 0
  have cC_1 := blk_cell KC.out 1
  have fC_1 := blk_frozen KC.out 1
  have cC_2 := blk_cell KC.out 2
  have fC_2 := blk_frozen KC.out 2
  clear cP_0 fP_0 cP_1 fP_1 cP_2 fP_2
  replace KP : Hid (w9.heap[w2.heap.size]? = some (.cells #[.int .i64 p1, .int .i64 p2, .int .i64 p3] 23 (0, 0))) := blk_below (by repeat (first | (with_reducible first | exact KP.out | apply blk_drewN | apply blk_drew | apply blk_alloc) | exact KP.out)) hb9
  have cP_0 := blk_cell KP.out 0
  have fP_0 := blk_frozen KP.out 0
  have cP_1 := blk_cell KP.out 1
  have fP_1 := blk_frozen KP.out 1
  have cP_2 := blk_cell KP.out 2
  have fP_2 := blk_frozen KP.out 2
  have cD_0 := blk_cell KD.out 0
  have fD_0 := blk_frozen KD.out 0
  have cD_1 := blk_cell KD.out 1
  have fD_1 := blk_frozen KD.out 1
  have cD_2 := blk_cell KD.out 2
  have fD_2 := blk_frozen KD.out 2
  replace HB : Hid (Below w.heap.size w w9) := below_step (by repeat (first | (with_reducible first | exact HB.out | exact Below.refl _ _ | apply below_alloc | apply bdr | apply below_drew1) | (refine below_set ?_ (by first | omega | (simp; done) | (simp; omega))) | exact HB.out | exact Below.refl _ _)) hb9
  clear hb9
  replace hlA := blk_lt KA.out
  replace hlC := blk_lt KC.out
  replace hlP := blk_lt KP.out
  have hlD := blk_lt KD.out
  go_wp2_with fail
  clear cP_0 fP_0 cP_1 fP_1 cP_2 fP_2
  clear hlP KP
  clear cC_0 fC_0 cC_1 fC_1 cC_2 fC_2
  clear hlC KC
  refine (unit_Mul.calls _ _ _ _ _ _ _ _ _ _ _ M5.out).mono ?_
  rintro e w10 ⟨rfl, hb10⟩
  have KX : Hid (w10.heap[w9.heap.size]? = some (.cells #[.int .i64 r1, .int .i64 r2, .int .i64 r3] 23 (0, 0))) := blk_below (blk_new w9 (.cells #[.int .i64 r1, .int .i64 r2, .int .i64 r3] 23)) hb10
  clear cA_0 fA_0 cA_1 fA_1 cA_2 fA_2
  replace KA : Hid (w10.heap[w.heap.size]? = some (.cells #[.int .i64 a, .int .i64 b, .int .i64 c] 23 (0, 0))) := blk_below (by repeat (first | (with_reducible first | exact KA.out | apply blk_drewN | apply blk_drew | apply blk_alloc) | exact KA.out)) hb10
  have cA_0 := blk_cell KA.out 0
  have fA_0 := blk_frozen KA.out 0
  have cA_1 := blk_cell KA.out 1
  have fA_1 := blk_frozen KA.out 1
  have cA_2 := blk_cell KA.out 2
  have fA_2 := blk_frozen KA.out 2
  clear cD_0 fD_0 cD_1 fD_1 cD_2 fD_2
  replace KD : Hid (w10.heap[w8.heap.size]? = some (.cells #[.int .i64 q1, .int .i64 q2, .int .i64 q3] 23 (0, 0))) := blk_below (by repeat (first | (with_reducible first | exact KD.out | apply blk_drewN | apply blk_drew | apply blk_alloc) | exact KD.out)) hb10
  have cD_0 := blk_cell KD.out 0
  have fD_0 := blk_frozen KD.out 0
  have cD_1 := blk_cell KD.out 1
  have fD_1 := blk_frozen KD.out 1
  have cD_2 := blk_cell KD.out 2
  have fD_2 := blk_frozen KD.out 2
  have cX_0 := blk_cell KX.out 0
  have fX_0 := blk_frozen KX.out 0
  have cX_1 := blk_cell KX.out 1
  have fX_1 := blk_frozen KX.out 1
  have cX_2 := blk_cell KX.out 2
  have fX_2 := blk_frozen KX.out 2
  replace HB : Hid (Below w.heap.size w w10) := below_step (by repeat (first | (with_reducible first | exact HB.out | exact Below.refl _ _ | apply below_alloc | apply bdr | apply below_drew1) | (refine below_set ?_ (by first | omega | (simp; done) | (simp; omega))) | exact HB.out | exact Below.refl _ _)) hb10
  clear hb10
  replace hlA := blk_lt KA.out
  replace hlD := blk_lt KD.out
  have hlX := blk_lt KX.out
  go_wp2_with fail
  go_ret
  exact ⟨rfl, below_alloc HB.out _⟩

set_option maxRecDepth 100000 in
set_option maxHeartbeats 4000000 in
theorem group_x (a b c x y z s t u : Int) (w : World) (hT : Tabs w) (p1 p2 p3 q1 q2 q3 r1 r2 r3 s1 s2 s3 e j k l : Int) (h : okU a b c) (m1 : unit_Mul.f a b c x y z = some (p1, p2, p3, 0)) (m3 : unit_Mul.f x y z s t u = some (q1, q2, q3, 0)) (m4 : unit_Mul.f p1 p2 p3 s t u = some (r1, r2, r3, 0)) (m5 : unit_Mul.f a b c q1 q2 q3 = some (r1, r2, r3, 0))  :
    Calls Tryd.prog 4 #[.agg #[.int .i64 a, .int .i64 b, .int .i64 c], .agg #[.int .i64 x, .int .i64 y, .int .i64 z], .agg #[.int .i64 s, .int .i64 t, .int .i64 u]] w fun e w' => e = .returned (.bool true) ∧ Below w.heap.size w w' := by
  have HT := Lib.hid hT
  clear hT
  have H := Lib.hid h
  clear h
  have M1 := Lib.hid m1
  clear m1
  have M3 := Lib.hid m3
  clear m3
  have M4 := Lib.hid m4
  clear m4
  have M5 := Lib.hid m5
  clear m5
  have h3 := alloc3_blk w (.cells #[.int .i64 a, .int .i64 b, .int .i64 c] 23) (.cells #[.int .i64 x, .int .i64 y, .int .i64 z] 23) (.cells #[.int .i64 s, .int .i64 t, .int .i64 u] 23)
  go_enter Tryd.func4, Tryd.ntmps4
  go_wp2_with fail
  refine (head.calls true _ (((HT.out.alloc _).alloc _).alloc _) rfl).mono ?_
  rintro e w1 ⟨rfl, hb1⟩
  have KA : Hid (w1.heap[w.heap.size]? = some (.cells #[.int .i64 a, .int .i64 b, .int .i64 c] 23 (0, 0))) := blk_below h3.1 hb1
  have KB : Hid (w1.heap[w.heap.size + 1]? = some (.cells #[.int .i64 x, .int .i64 y, .int .i64 z] 23 (0, 0))) := blk_below h3.2.1 hb1
  have KC : Hid (w1.heap[w.heap.size + 1 + 1]? = some (.cells #[.int .i64 s, .int .i64 t, .int .i64 u] 23 (0, 0))) := blk_below h3.2.2 hb1
  have cA_0 := blk_cell KA.out 0
  have fA_0 := blk_frozen KA.out 0
  have cA_1 := blk_cell KA.out 1
  have fA_1 := blk_frozen KA.out 1
  have cA_2 := blk_cell KA.out 2
  have fA_2 := blk_frozen KA.out 2
  have cB_0 := blk_cell KB.out 0
  have fB_0 := blk_frozen KB.out 0
  have cB_1 := blk_cell KB.out 1
  have fB_1 := blk_frozen KB.out 1
  have cB_2 := blk_cell KB.out 2
  have fB_2 := blk_frozen KB.out 2
  have cC_0 := blk_cell KC.out 0
  have fC_0 := blk_frozen KC.out 0
  have cC_1 := blk_cell KC.out 1
  have fC_1 := blk_frozen KC.out 1
  have cC_2 := blk_cell KC.out 2
  have fC_2 := blk_frozen KC.out 2
  have HB : Hid (Below w.heap.size w w1) := below_step (by repeat (first | (with_reducible first | exact HB.out | exact Below.refl _ _ | apply below_alloc | apply bdr | apply below_drew1) | (refine below_set ?_ (by first | omega | (simp; done) | (simp; omega))) | exact HB.out | exact Below.refl _ _)) hb1
  clear hb1
  clear h3
  have hlA := blk_lt KA.out
  have hlB := blk_lt KB.out
  have hlC := blk_lt KC.out
  go_wp2_with fail
  refine (unit_Mul.calls _ _ _ _ _ _ _ _ _ _ _ M1.out).mono ?_
  rintro e w2 ⟨rfl, hb2⟩
  clear cA_0 fA_0 cA_1 fA_1 cA_2 fA_2
  replace KA : Hid (w2.heap[w.heap.size]? = some (.cells #[.int .i64 a, .int .i64 b, .int .i64 c] 23 (0, 0))) := blk_below (by repeat (first | (with_reducible first | exact KA.out | apply blk_drewN | apply blk_drew | apply blk_alloc) | exact KA.out)) hb2
  have cA_0 := blk_cell KA.out 0
  have fA_0 := blk_frozen KA.out 0
  have cA_1 := blk_cell KA.out 1
  have fA_1 := blk_frozen KA.out 1
  have cA_2 := blk_cell KA.out 2
  have fA_2 := blk_frozen KA.out 2
  clear cB_0 fB_0 cB_1 fB_1 cB_2 fB_2
  replace KB : Hid (w2.heap[w.heap.size + 1]? = some (.cells #[.int .i64 x, .int .i64 y, .int .i64 z] 23 (0, 0))) := blk_below (by repeat (first | (with_reducible first | exact KB.out | apply blk_drewN | apply blk_drew | apply blk_alloc) | exact KB.out)) hb2
  have cB_0 := blk_cell KB.out 0
  have fB_0 := blk_frozen KB.out 0
  have cB_1 := blk_cell KB.out 1
  have fB_1 := blk_frozen KB.out 1
  have cB_2 := blk_cell KB.out 2
  have fB_2 := blk_frozen KB.out 2
  clear cC_0 fC_0 cC_1 fC_1 cC_2 fC_2
  replace KC : Hid (w2.heap[w.heap.size + 1 + 1]? = some (.cells #[.int .i64 s, .int .i64 t, .int .i64 u] 23 (0, 0))) := blk_below (by repeat (first | (with_reducible first | exact KC.out | apply blk_drewN | apply blk_drew | apply blk_alloc) | exact KC.out)) hb2
  have cC_0 := blk_cell KC.out 0
  have fC_0 := blk_frozen KC.out 0
  have cC_1 := blk_cell KC.out 1
  have fC_1 := blk_frozen KC.out 1
  have cC_2 := blk_cell KC.out 2
  have fC_2 := blk_frozen KC.out 2
  replace HB : Hid (Below w.heap.size w w2) := below_step (by repeat (first | (with_reducible first | exact HB.out | exact Below.refl _ _ | apply below_alloc | apply bdr | apply below_drew1) | (refine below_set ?_ (by first | omega | (simp; done) | (simp; omega))) | exact HB.out | exact Below.refl _ _)) hb2
  clear hb2
  replace hlA := blk_lt KA.out
  replace hlB := blk_lt KB.out
  replace hlC := blk_lt KC.out
  go_wp2_with fail
  refine (unit_Mul.calls _ _ _ _ _ _ _ _ _ _ _ ((mulF_comm a b c x y z).trans M1.out)).mono ?_
  rintro e w3 ⟨rfl, hb3⟩
  have KP : Hid (w3.heap[w2.heap.size]? = some (.cells #[.int .i64 p1, .int .i64 p2, .int .i64 p3] 23 (0, 0))) := blk_below (blk_new w2 (.cells #[.int .i64 p1, .int .i64 p2, .int .i64 p3] 23)) hb3
  clear cA_0 fA_0 cA_1 fA_1 cA_2 fA_2
  replace KA : Hid (w3.heap[w.heap.size]? = some (.cells #[.int .i64 a, .int .i64 b, .int .i64 c] 23 (0, 0))) := blk_below (by repeat (first | (with_reducible first | exact KA.out | apply blk_drewN | apply blk_drew | apply blk_alloc) | exact KA.out)) hb3
  have cA_0 := blk_cell KA.out 0
  have fA_0 := blk_frozen KA.out 0
  have cA_1 := blk_cell KA.out 1
  have fA_1 := blk_frozen KA.out 1
  have cA_2 := blk_cell KA.out 2
  have fA_2 := blk_frozen KA.out 2
  clear cB_0 fB_0 cB_1 fB_1 cB_2 fB_2
  replace KB : Hid (w3.heap[w.heap.size + 1]? = some (.cells #[.int .i64 x, .int .i64 y, .int .i64 z] 23 (0, 0))) := blk_below (by repeat (first | (with_reducible first | exact KB.out | apply blk_drewN | apply blk_drew | apply blk_alloc) | exact KB.out)) hb3
  have cB_0 := blk_cell KB.out 0
  have fB_0 := blk_frozen KB.out 0
  have cB_1 := blk_cell KB.out 1
  have fB_1 := blk_frozen KB.out 1
  have cB_2 := blk_cell KB.out 2
  have fB_2 := blk_frozen KB.out 2
  clear cC_0 fC_0 cC_1 fC_1 cC_2 fC_2
  replace KC : Hid (w3.heap[w.heap.size + 1 + 1]? = some (.cells #[.int .i64 s, .int .i64 t, .int .i64 u] 23 (0, 0))) := blk_below (by repeat (first | (with_reducible first | exact KC.out | apply blk_drewN | apply blk_drew | apply blk_alloc) | exact KC.out)) hb3
  have cC_0 := blk_cell KC.out 0
  have fC_0 := blk_frozen KC.out 0
  have cC_1 := blk_cell KC.out 1
  have fC_1 := blk_frozen KC.out 1
  have cC_2 := blk_cell KC.out 2
  have fC_2 := blk_frozen KC.out 2
  have cP_0 := blk_cell KP.out 0
  have fP_0 := blk_frozen KP.out 0
  have cP_1 := blk_cell KP.out 1
  have fP_1 := blk_frozen KP.out 1
  have cP_2 := blk_cell KP.out 2
  have fP_2 := blk_frozen KP.out 2
  replace HB : Hid (Below w.heap.size w w3) := below_step (by repeat (first | (with_reducible first | exact HB.out | exact Below.refl _ _ | apply below_alloc | apply bdr | apply below_drew1) | (refine below_set ?_ (by first | omega | (simp; done) | (simp; omega))) | exact HB.out | exact Below.refl _ _)) hb3
  clear hb3
  replace hlA := blk_lt KA.out
  replace hlB := blk_lt KB.out
  replace hlC := blk_lt KC.out
  have hlP := blk_lt KP.out
  go_wp2_with fail
  refine (unit_Text.calls _ _ _ _ _ _ ((HT.out.below HB.out).alloc _) (textF_ok a b c H.out)).mono ?_
  rintro e w4 ⟨rfl, hb4⟩
  have KQ : Hid (w4.heap[w3.heap.size]? = some (.cells #[.int .i64 p1, .int .i64 p2, .int .i64 p3] 23 (0, 0))) := blk_below (blk_new w3 (.cells #[.int .i64 p1, .int .i64 p2, .int .i64 p3] 23)) hb4
  clear cA_0 fA_0 cA_1 fA_1 cA_2 fA_2
  replace KA : Hid (w4.heap[w.heap.size]? = some (.cells #[.int .i64 a, .int .i64 b, .int .i64 c] 23 (0, 0))) := blk_below (by repeat (first | (with_reducible first | exact KA.out | apply blk_drewN | apply blk_drew | apply blk_alloc) | exact KA.out)) hb4
  have cA_0 := blk_cell KA.out 0
  have fA_0 := blk_frozen KA.out 0
  have cA_1 := blk_cell KA.out 1
  have fA_1 := blk_frozen KA.out 1
  have cA_2 := blk_cell KA.out 2
  have fA_2 := blk_frozen KA.out 2
  clear cB_0 fB_0 cB_1 fB_1 cB_2 fB_2
  replace KB : Hid (w4.heap[w.heap.size + 1]? = some (.cells #[.int .i64 x, .int .i64 y, .int .i64 z] 23 (0, 0))) := blk_below (by repeat (first | (with_reducible first | exact KB.out | apply blk_drewN | apply blk_drew | apply blk_alloc) | exact KB.out)) hb4
  have cB_0 := blk_cell KB.out 0
  have fB_0 := blk_frozen KB.out 0
  have cB_1 := blk_cell KB.out 1
  have fB_1 := blk_frozen KB.out 1
  have cB_2 := blk_cell KB.out 2
  have fB_2 := blk_frozen KB.out 2
  clear cC_0 fC_0 cC_1 fC_1 cC_2 fC_2
  replace KC : Hid (w4.heap[w.heap.size + 1 + 1]? = some (.cells #[.int .i64 s, .int .i64 t, .int .i64 u] 23 (0, 0))) := blk_below (by repeat (first | (with_reducible first | exact KC.out | apply blk_drewN | apply blk_drew | apply blk_alloc) | exact KC.out)) hb4
  have cC_0 := blk_cell KC.out 0
  have fC_0 := blk_frozen KC.out 0
  have cC_1 := blk_cell KC.out 1
  have fC_1 := blk_frozen KC.out 1
  have cC_2 := blk_cell KC.out 2
  have fC_2 := blk_frozen KC.out 2
  clear cP_0 fP_0 cP_1 fP_1 cP_2 fP_2
  replace KP : Hid (w4.heap[w2.heap.size]? = some (.cells #[.int .i64 p1, .int .i64 p2, .int .i64 p3] 23 (0, 0))) := blk_below (by repeat (first | (with_reducible first | exact KP.out | apply blk_drewN | apply blk_drew | apply blk_alloc) | exact KP.out)) hb4
  have cP_0 := blk_cell KP.out 0
  have fP_0 := blk_frozen KP.out 0
  have cP_1 := blk_cell KP.out 1
  have fP_1 := blk_frozen KP.out 1
  have cP_2 := blk_cell KP.out 2
  have fP_2 := blk_frozen KP.out 2
  have cQ_0 := blk_cell KQ.out 0
  have fQ_0 := blk_frozen KQ.out 0
  have cQ_1 := blk_cell KQ.out 1
  have fQ_1 := blk_frozen KQ.out 1
  have cQ_2 := blk_cell KQ.out 2
  have fQ_2 := blk_frozen KQ.out 2
  replace HB : Hid (Below w.heap.size w w4) := below_step (by repeat (first | (with_reducible first | exact HB.out | exact Below.refl _ _ | apply below_alloc | apply bdr | apply below_drew1) | (refine below_set ?_ (by first | omega | (simp; done) | (simp; omega))) | exact HB.out | exact Below.refl _ _)) hb4
  clear hb4
  replace hlA := blk_lt KA.out
  replace hlB := blk_lt KB.out
  replace hlC := blk_lt KC.out
  replace hlP := blk_lt KP.out
  have hlQ := blk_lt KQ.out
  go_wp2_with fail
  clear cQ_0 fQ_0 cQ_1 fQ_1 cQ_2 fQ_2
  clear hlQ KQ
  refine (unit_Mul.calls _ _ _ _ _ _ _ _ _ _ _ (mulF_one a b c H.out)).mono ?_
  rintro e w5 ⟨rfl, hb5⟩
  clear cA_0 fA_0 cA_1 fA_1 cA_2 fA_2
  replace KA : Hid (w5.heap[w.heap.size]? = some (.cells #[.int .i64 a, .int .i64 b, .int .i64 c] 23 (0, 0))) := blk_below (by repeat (first | (with_reducible first | exact KA.out | apply blk_drewN | apply blk_drew | apply blk_alloc) | exact KA.out)) hb5
  have cA_0 := blk_cell KA.out 0
  have fA_0 := blk_frozen KA.out 0
  have cA_1 := blk_cell KA.out 1
  have fA_1 := blk_frozen KA.out 1
  have cA_2 := blk_cell KA.out 2
  have fA_2 := blk_frozen KA.out 2
  clear cB_0 fB_0 cB_1 fB_1 cB_2 fB_2
  replace KB : Hid (w5.heap[w.heap.size + 1]? = some (.cells #[.int .i64 x, .int .i64 y, .int .i64 z] 23 (0, 0))) := blk_below (by repeat (first | (with_reducible first | exact KB.out | apply blk_drewN | apply blk_drew | apply blk_alloc) | exact KB.out)) hb5
  have cB_0 := blk_cell KB.out 0
  have fB_0 := blk_frozen KB.out 0
  have cB_1 := blk_cell KB.out 1
  have fB_1 := blk_frozen KB.out 1
  have cB_2 := blk_cell KB.out 2
  have fB_2 := blk_frozen KB.out 2
  clear cC_0 fC_0 cC_1 fC_1 cC_2 fC_2
  replace KC : Hid (w5.heap[w.heap.size + 1 + 1]? = some (.cells #[.int .i64 s, .int .i64 t, .int .i64 u] 23 (0, 0))) := blk_below (by repeat (first | (with_reducible first | exact KC.out | apply blk_drewN | apply blk_drew | apply blk_alloc) | exact KC.out)) hb5
  have cC_0 := blk_cell KC.out 0
  have fC_0 := blk_frozen KC.out 0
  have cC_1 := blk_cell KC.out 1
  have fC_1 := blk_frozen KC.out 1
  have cC_2 := blk_cell KC.out 2
  have fC_2 := blk_frozen KC.out 2
  clear cP_0 fP_0 cP_1 fP_1 cP_2 fP_2
  replace KP : Hid (w5.heap[w2.heap.size]? = some (.cells #[.int .i64 p1, .int .i64 p2, .int .i64 p3] 23 (0, 0))) := blk_below (by repeat (first | (with_reducible first | exact KP.out | apply blk_drewN | apply blk_drew | apply blk_alloc) | exact KP.out)) hb5
  have cP_0 := blk_cell KP.out 0
  have fP_0 := blk_frozen KP.out 0
  have cP_1 := blk_cell KP.out 1
  have fP_1 := blk_frozen KP.out 1
  have cP_2 := blk_cell KP.out 2
  have fP_2 := blk_frozen KP.out 2
  replace HB : Hid (Below w.heap.size w w5) := below_step (by repeat (first | (with_reducible first | exact HB.out | exact Below.refl _ _ | apply below_alloc | apply bdr | apply below_drew1) | (refine below_set ?_ (by first | omega | (simp; done) | (simp; omega))) | exact HB.out | exact Below.refl _ _)) hb5
  clear hb5
  replace hlA := blk_lt KA.out
  replace hlB := blk_lt KB.out
  replace hlC := blk_lt KC.out
  replace hlP := blk_lt KP.out
  go_wp2_with fail
  refine (unit_Power.calls _ _ _ _ _ _ _ _ _ (powF_back a b c H.out)).mono ?_
  rintro e w6 ⟨rfl, hb6⟩
  have KS : Hid (w6.heap[w5.heap.size]? = some (.cells #[.int .i64 a, .int .i64 b, .int .i64 c] 23 (0, 0))) := blk_below (blk_new w5 (.cells #[.int .i64 a, .int .i64 b, .int .i64 c] 23)) hb6
  clear cA_0 fA_0 cA_1 fA_1 cA_2 fA_2
  replace KA : Hid (w6.heap[w.heap.size]? = some (.cells #[.int .i64 a, .int .i64 b, .int .i64 c] 23 (0, 0))) := blk_below (by repeat (first | (with_reducible first | exact KA.out | apply blk_drewN | apply blk_drew | apply blk_alloc) | exact KA.out)) hb6
  have cA_0 := blk_cell KA.out 0
  have fA_0 := blk_frozen KA.out 0
  have cA_1 := blk_cell KA.out 1
  have fA_1 := blk_frozen KA.out 1
  have cA_2 := blk_cell KA.out 2
  have fA_2 := blk_frozen KA.out 2
  clear cB_0 fB_0 cB_1 fB_1 cB_2 fB_2
  replace KB : Hid (w6.heap[w.heap.size + 1]? = some (.cells #[.int .i64 x, .int .i64 y, .int .i64 z] 23 (0, 0))) := blk_below (by repeat (first | (with_reducible first | exact KB.out | apply blk_drewN | apply blk_drew | apply blk_alloc) | exact KB.out)) hb6
  have cB_0 := blk_cell KB.out 0
  have fB_0 := blk_frozen KB.out 0
  have cB_1 := blk_cell KB.out 1
  have fB_1 := blk_frozen KB.out 1
  have cB_2 := blk_cell KB.out 2
  have fB_2 := blk_frozen KB.out 2
  clear cC_0 fC_0 cC_1 fC_1 cC_2 fC_2
  replace KC : Hid (w6.heap[w.heap.size + 1 + 1]? = some (.cells #[.int .i64 s, .int .i64 t, .int .i64 u] 23 (0, 0))) := blk_below (by repeat (first | (with_reducible first | exact KC.out | apply blk_drewN | apply blk_drew | apply blk_alloc) | exact KC.out)) hb6
  have cC_0 := blk_cell KC.out 0
  have fC_0 := blk_frozen KC.out 0
  have cC_1 := blk_cell KC.out 1
  have fC_1 := blk_frozen KC.out 1
  have cC_2 := blk_cell KC.out 2
  have fC_2 := blk_frozen KC.out 2
  clear cP_0 fP_0 cP_1 fP_1 cP_2 fP_2
  replace KP : Hid (w6.heap[w2.heap.size]? = some (.cells #[.int .i64 p1, .int .i64 p2, .int .i64 p3] 23 (0, 0))) := blk_below (by repeat (first | (with_reducible first | exact KP.out | apply blk_drewN | apply blk_drew | apply blk_alloc) | exact KP.out)) hb6
  have cP_0 := blk_cell KP.out 0
  have fP_0 := blk_frozen KP.out 0
  have cP_1 := blk_cell KP.out 1
  have fP_1 := blk_frozen KP.out 1
  have cP_2 := blk_cell KP.out 2
  have fP_2 := blk_frozen KP.out 2
  have cS_0 := blk_cell KS.out 0
  have fS_0 := blk_frozen KS.out 0
  have cS_1 := blk_cell KS.out 1
  have fS_1 := blk_frozen KS.out 1
  have cS_2 := blk_cell KS.out 2
  have fS_2 := blk_frozen KS.out 2
  replace HB : Hid (Below w.heap.size w w6) := below_step (by repeat (first | (with_reducible first | exact HB.out | exact Below.refl _ _ | apply below_alloc | apply bdr | apply below_drew1) | (refine below_set ?_ (by first | omega | (simp; done) | (simp; omega))) | exact HB.out | exact Below.refl _ _)) hb6
  clear hb6
  replace hlA := blk_lt KA.out
  replace hlB := blk_lt KB.out
  replace hlC := blk_lt KC.out
  replace hlP := blk_lt KP.out
  have hlS := blk_lt KS.out
  go_wp2_with fail
  refine (unit_Mul.calls _ _ _ _ _ _ _ _ _ _ _ (mulF_back a b c H.out)).mono ?_
  rintro e w7 ⟨rfl, hb7⟩
  have KR : Hid (w7.heap[w6.heap.size]? = some (.cells #[.int .i64 (-a), .int .i64 (-b), .int .i64 (-c)] 23 (0, 0))) := blk_below (blk_new w6 (.cells #[.int .i64 (-a), .int .i64 (-b), .int .i64 (-c)] 23)) hb7
  clear cA_0 fA_0 cA_1 fA_1 cA_2 fA_2
  replace KA : Hid (w7.heap[w.heap.size]? = some (.cells #[.int .i64 a, .int .i64 b, .int .i64 c] 23 (0, 0))) := blk_below (by repeat (first | (with_reducible first | exact KA.out | apply blk_drewN | apply blk_drew | apply blk_alloc) | exact KA.out)) hb7
  have cA_0 := blk_cell KA.out 0
  have fA_0 := blk_frozen KA.out 0
  have cA_1 := blk_cell KA.out 1
  have fA_1 := blk_frozen KA.out 1
  have cA_2 := blk_cell KA.out 2
  have fA_2 := blk_frozen KA.out 2
  clear cB_0 fB_0 cB_1 fB_1 cB_2 fB_2
  replace KB : Hid (w7.heap[w.heap.size + 1]? = some (.cells #[.int .i64 x, .int .i64 y, .int .i64 z] 23 (0, 0))) := blk_below (by repeat (first | (with_reducible first | exact KB.out | apply blk_drewN | apply blk_drew | apply blk_alloc) | exact KB.out)) hb7
  have cB_0 := blk_cell KB.out 0
  have fB_0 := blk_frozen KB.out 0
  have cB_1 := blk_cell KB.out 1
  have fB_1 := blk_frozen KB.out 1
  have cB_2 := blk_cell KB.out 2
  have fB_2 := blk_frozen KB.out 2
  clear cC_0 fC_0 cC_1 fC_1 cC_2 fC_2
  replace KC : Hid (w7.heap[w.heap.size + 1 + 1]? = some (.cells #[.int .i64 s, .int .i64 t, .int .i64 u] 23 (0, 0))) := blk_below (by repeat (first | (with_reducible first | exact KC.out | apply blk_drewN | apply blk_drew | apply blk_alloc) | exact KC.out)) hb7
  have cC_0 := blk_cell KC.out 0
  have fC_0 := blk_frozen KC.out 0
  have cC_1 := blk_cell KC.out 1
  have fC_1 := blk_frozen KC.out 1
  have cC_2 := blk_cell KC.out 2
  have fC_2 := blk_frozen KC.out 2
  clear cP_0 fP_0 cP_1 fP_1 cP_2 fP_2
  replace KP : Hid (w7.heap[w2.heap.size]? = some (.cells #[.int .i64 p1, .int .i64 p2, .int .i64 p3] 23 (0, 0))) := blk_below (by repeat (first | (with_reducible first | exact KP.out | apply blk_drewN | apply blk_drew | apply blk_alloc) | exact KP.out)) hb7
  have cP_0 := blk_cell KP.out 0
  have fP_0 := blk_frozen KP.out 0
  have cP_1 := blk_cell KP.out 1
  have fP_1 := blk_frozen KP.out 1
  have cP_2 := blk_cell KP.out 2
  have fP_2 := blk_frozen KP.out 2
  clear cS_0 fS_0 cS_1 fS_1 cS_2 fS_2
  replace KS : Hid (w7.heap[w5.heap.size]? = some (.cells #[.int .i64 a, .int .i64 b, .int .i64 c] 23 (0, 0))) := blk_below (by repeat (first | (with_reducible first | exact KS.out | apply blk_drewN | apply blk_drew | apply blk_alloc) | exact KS.out)) hb7
  have cS_0 := blk_cell KS.out 0
  have fS_0 := blk_frozen KS.out 0
  have cS_1 := blk_cell KS.out 1
  have fS_1 := blk_frozen KS.out 1
  have cS_2 := blk_cell KS.out 2
  have fS_2 := blk_frozen KS.out 2
  have cR_0 := blk_cell KR.out 0
  have fR_0 := blk_frozen KR.out 0
  have cR_1 := blk_cell KR.out 1
  have fR_1 := blk_frozen KR.out 1
  have cR_2 := blk_cell KR.out 2
  have fR_2 := blk_frozen KR.out 2
  replace HB : Hid (Below w.heap.size w w7) := below_step (by repeat (first | (with_reducible first | exact HB.out | exact Below.refl _ _ | apply below_alloc | apply bdr | apply below_drew1) | (refine below_set ?_ (by first | omega | (simp; done) | (simp; omega))) | exact HB.out | exact Below.refl _ _)) hb7
  clear hb7
  replace hlA := blk_lt KA.out
  replace hlB := blk_lt KB.out
  replace hlC := blk_lt KC.out
  replace hlP := blk_lt KP.out
  replace hlS := blk_lt KS.out
  have hlR := blk_lt KR.out
  go_wp2_with fail
  refine (unit_Mul.calls _ _ _ _ _ _ _ _ _ _ _ M3.out).mono ?_
  rintro e w8 ⟨rfl, hb8⟩
  have KO : Hid (w8.heap[w7.heap.size]? = some (.cells #[.int .i64 0, .int .i64 0, .int .i64 0] 23 (0, 0))) := blk_below (blk_new w7 (.cells #[.int .i64 0, .int .i64 0, .int .i64 0] 23)) hb8
  clear cA_0 fA_0 cA_1 fA_1 cA_2 fA_2
  replace KA : Hid (w8.heap[w.heap.size]? = some (.cells #[.int .i64 a, .int .i64 b, .int .i64 c] 23 (0, 0))) := blk_below (by repeat (first | (with_reducible first | exact KA.out | apply blk_drewN | apply blk_drew | apply blk_alloc) | exact KA.out)) hb8
  have cA_0 := blk_cell KA.out 0
  have fA_0 := blk_frozen KA.out 0
  have cA_1 := blk_cell KA.out 1
  have fA_1 := blk_frozen KA.out 1
  have cA_2 := blk_cell KA.out 2
  have fA_2 := blk_frozen KA.out 2
  clear cB_0 fB_0 cB_1 fB_1 cB_2 fB_2
  replace KB : Hid (w8.heap[w.heap.size + 1]? = some (.cells #[.int .i64 x, .int .i64 y, .int .i64 z] 23 (0, 0))) := blk_below (by repeat (first | (with_reducible first | exact KB.out | apply blk_drewN | apply blk_drew | apply blk_alloc) | exact KB.out)) hb8
  have cB_0 := blk_cell KB.out 0
  have fB_0 := blk_frozen KB.out 0
  have cB_1 := blk_cell KB.out 1
  have fB_1 := blk_frozen KB.out 1
  have cB_2 := blk_cell KB.out 2
  have fB_2 := blk_frozen KB.out 2
  clear cC_0 fC_0 cC_1 fC_1 cC_2 fC_2
  replace KC : Hid (w8.heap[w.heap.size + 1 + 1]? = some (.cells #[.int .i64 s, .int .i64 t, .int .i64 u] 23 (0, 0))) := blk_below (by repeat (first | (with_reducible first | exact KC.out | apply blk_drewN | apply blk_drew | apply blk_alloc) | exact KC.out)) hb8
  have cC_0 := blk_cell KC.out 0
  have fC_0 := blk_frozen KC.out 0
  have cC_1 := blk_cell KC.out 1
  have fC_1 := blk_frozen KC.out 1
  have cC_2 := blk_cell KC.out 2
  have fC_2 := blk_frozen KC.out 2
  clear cP_0 fP_0 cP_1 fP_1 cP_2 fP_2
  replace KP : Hid (w8.heap[w2.heap.size]? = some (.cells #[.int .i64 p1, .int .i64 p2, .int .i64 p3] 23 (0, 0))) := blk_below (by repeat (first | (with_reducible first | exact KP.out | apply blk_drewN | apply blk_drew | apply blk_alloc) | exact KP.out)) hb8
  have cP_0 := blk_cell KP.out 0
  have fP_0 := blk_frozen KP.out 0
  have cP_1 := blk_cell KP.out 1
  have fP_1 := blk_frozen KP.out 1
  have cP_2 := blk_cell KP.out 2
  have fP_2 := blk_frozen KP.out 2
  clear cS_0 fS_0 cS_1 fS_1 cS_2 fS_2
  replace KS : Hid (w8.heap[w5.heap.size]? = some (.cells #[.int .i64 a, .int .i64 b, .int .i64 c] 23 (0, 0))) := blk_below (by repeat (first | (with_reducible first | exact KS.out | apply blk_drewN | apply blk_drew | apply blk_alloc) | exact KS.out)) hb8
  have cS_0 := blk_cell KS.out 0
  have fS_0 := blk_frozen KS.out 0
  have cS_1 := blk_cell KS.out 1
  have fS_1 := blk_frozen KS.out 1
  have cS_2 := blk_cell KS.out 2
  have fS_2 := blk_frozen KS.out 2
  clear cR_0 fR_0 cR_1 fR_1 cR_2 fR_2
  replace KR : Hid (w8.heap[w6.heap.size]? = some (.cells #[.int .i64 (-a), .int .i64 (-b), .int .i64 (-c)] 23 (0, 0))) := blk_below (by repeat (first | (with_reducible first | exact KR.out | apply blk_drewN | apply blk_drew | apply blk_alloc) | exact KR.out)) hb8
  have cR_0 := blk_cell KR.out 0
  have fR_0 := blk_frozen KR.out 0
  have cR_1 := blk_cell KR.out 1
  have fR_1 := blk_frozen KR.out 1
  have cR_2 := blk_cell KR.out 2
  have fR_2 := blk_frozen KR.out 2
  have cO_0 := blk_cell KO.out 0
  have fO_0 := blk_frozen KO.out 0
  have cO_1 := blk_cell KO.out 1
  have fO_1 := blk_frozen KO.out 1
  have cO_2 := blk_cell KO.out 2
  have fO_2 := blk_frozen KO.out 2
  replace HB : Hid (Below w.heap.size w w8) := below_step (by repeat (first | (with_reducible first | exact HB.out | exact Below.refl _ _ | apply below_alloc | apply bdr | apply below_drew1) | (refine below_set ?_ (by first | omega | (simp; done) | (simp; omega))) | exact HB.out | exact Below.refl _ _)) hb8
  clear hb8
  replace hlA := blk_lt KA.out
  replace hlB := blk_lt KB.out
  replace hlC := blk_lt KC.out
  replace hlP := blk_lt KP.out
  replace hlS := blk_lt KS.out
  replace hlR := blk_lt KR.out
  have hlO := blk_lt KO.out
  go_wp2_with fail
  clear cS_0 fS_0 cS_1 fS_1 cS_2 fS_2
  clear hlS KS
  clear cR_0 fR_0 cR_1 fR_1 cR_2 fR_2
  clear hlR KR
  clear cO_0 fO_0 cO_1 fO_1 cO_2 fO_2
  clear hlO KO
  clear cB_0 fB_0 cB_1 fB_1 cB_2 fB_2
  clear hlB KB
  refine (unit_Mul.calls _ _ _ _ _ _ _ _ _ _ _ M4.out).mono ?_
  rintro e w9 ⟨rfl, hb9⟩
  have KD : Hid (w9.heap[w8.heap.size]? = some (.cells #[.int .i64 q1, .int .i64 q2, .int .i64 q3] 23 (0, 0))) := blk_below (blk_new w8 (.cells #[.int .i64 q1, .int .i64 q2, .int .i64 q3] 23)) hb9
  clear cA_0 fA_0 cA_1 fA_1 cA_2 fA_2
  replace KA : Hid (w9.heap[w.heap.size]? = some (.cells #[.int .i64 a, .int .i64 b, .int .i64 c] 23 (0, 0))) := blk_below (by repeat (first | (with_reducible first | exact KA.out | apply blk_drewN | apply blk_drew | apply blk_alloc) | exact KA.out)) hb9
  have cA_0 := blk_cell KA.out 0
  have fA_0 := blk_frozen KA.out 0
  have cA_1 := blk_cell KA.out 1
  have fA_1 := blk_frozen KA.out 1
  have cA_2 := blk_cell KA.out 2
  have fA_2 := blk_frozen KA.out 2
  clear cC_0 fC_0 cC_1 fC_1 cC_2 fC_2
  replace KC : Hid (w9.heap[w.heap.size + 1 + 1]? = some (.cells #[.int .i64 s, .int .i64 t, .int .i64 u] 23 (0, 0))) := blk_below (by repeat (first | (with_reducible first | exact KC.out | apply blk_drewN | apply blk_drew | apply blk_alloc) | exact KC.out)) hb9
  have cC_0 := blk_cell KC.out 0
  have fC_0 := blk_frozen KC.out 0
  have cC_1 := blk_cell KC.out 1
  have fC_1 := blk_frozen KC.out 1
  have cC_2 := blk_cell KC.out 2
  have fC_2 := blk_frozen KC.out 2
  clear cP_0 fP_0 cP_1 fP_1 cP_2 fP_2
  replace KP : Hid (w9.heap[w2.heap.size]? = some (.cells #[.int .i64 p1, .int .i64 p2, .int .i64 p3] 23 (0, 0))) := blk_below (by repeat (first | (with_reducible first | exact KP.out | apply blk_drewN | apply blk_drew | apply blk_alloc) | exact KP.out)) hb9
  have cP_0 := blk_cell KP.out 0
  have fP_0 := blk_frozen KP.out 0
  have cP_1 := blk_cell KP.out 1
  have fP_1 := blk_frozen KP.out 1
  have cP_2 := blk_cell KP.out 2
  have fP_2 := blk_frozen KP.out 2
  have cD_0 := blk_cell KD.out 0
  have fD_0 := blk_frozen KD.out 0
  have cD_1 := blk_cell KD.out 1
  have fD_1 := blk_frozen KD.out 1
  have cD_2 := blk_cell KD.out 2
  have fD_2 := blk_frozen KD.out 2
  replace HB : Hid (Below w.heap.size w w9) := below_step (by repeat (first | (with_reducible first | exact HB.out | exact Below.refl _ _ | apply below_alloc | apply bdr | apply below_drew1) | (refine below_set ?_ (by first | omega | (simp; done) | (simp; omega))) | exact HB.out | exact Below.refl _ _)) hb9
  clear hb9
  replace hlA := blk_lt KA.out
  replace hlC := blk_lt KC.out
  replace hlP := blk_lt KP.out
  have hlD := blk_lt KD.out
  go_wp2_with fail
  clear cP_0 fP_0 cP_1 fP_1 cP_2 fP_2
  clear hlP KP
  clear cC_0 fC_0 cC_1 fC_1 cC_2 fC_2
  clear hlC KC
  refine (unit_Mul.calls _ _ _ _ _ _ _ _ _ _ _ M5.out).mono ?_
  rintro e w10 ⟨rfl, hb10⟩
  have KX : Hid (w10.heap[w9.heap.size]? = some (.cells #[.int .i64 r1, .int .i64 r2, .int .i64 r3] 23 (0, 0))) := blk_below (blk_new w9 (.cells #[.int .i64 r1, .int .i64 r2, .int .i64 r3] 23)) hb10
  clear cA_0 fA_0 cA_1 fA_1 cA_2 fA_2
  replace KA : Hid (w10.heap[w.heap.size]? = some (.cells #[.int .i64 a, .int .i64 b, .int .i64 c] 23 (0, 0))) := blk_below (by repeat (first | (with_reducible first | exact KA.out | apply blk_drewN | apply blk_drew | apply blk_alloc) | exact KA.out)) hb10
  have cA_0 := blk_cell KA.out 0
  have fA_0 := blk_frozen KA.out 0
  have cA_1 := blk_cell KA.out 1
  have fA_1 := blk_frozen KA.out 1
  have cA_2 := blk_cell KA.out 2
  have fA_2 := blk_frozen KA.out 2
  clear cD_0 fD_0 cD_1 fD_1 cD_2 fD_2
  replace KD : Hid (w10.heap[w8.heap.size]? = some (.cells #[.int .i64 q1, .int .i64 q2, .int .i64 q3] 23 (0, 0))) := blk_below (by repeat (first | (with_reducible first | exact KD.out | apply blk_drewN | apply blk_drew | apply blk_alloc) | exact KD.out)) hb10
  have cD_0 := blk_cell KD.out 0
  have fD_0 := blk_frozen KD.out 0
  have cD_1 := blk_cell KD.out 1
  have fD_1 := blk_frozen KD.out 1
  have cD_2 := blk_cell KD.out 2
  have fD_2 := blk_frozen KD.out 2
  have cX_0 := blk_cell KX.out 0
  have fX_0 := blk_frozen KX.out 0
  have cX_1 := blk_cell KX.out 1
  have fX_1 := blk_frozen KX.out 1
  have cX_2 := blk_cell KX.out 2
  have fX_2 := blk_frozen KX.out 2
  replace HB : Hid (Below w.heap.size w w10) := below_step (by repeat (first | (with_reducible first | exact HB.out | exact Below.refl _ _ | apply below_alloc | apply bdr | apply below_drew1) | (refine below_set ?_ (by first | omega | (simp; done) | (simp; omega))) | exact HB.out | exact Below.refl _ _)) hb10
  clear hb10
  replace hlA := blk_lt KA.out
  replace hlD := blk_lt KD.out
  have hlX := blk_lt KX.out
  go_wp2_with fail
  go_ret
  exact ⟨rfl, below_alloc HB.out _⟩

theorem group_walk (a b c x y z s t u : Int) (w : World) (hT : Tabs w) :
    Calls Tryd.prog 4 #[.agg #[.int .i64 a, .int .i64 b, .int .i64 c], .agg #[.int .i64 x, .int .i64 y, .int .i64 z], .agg #[.int .i64 s, .int .i64 t, .int .i64 u]] w fun e w' => e = .returned (.bool true) ∧ Below w.heap.size w w' := by
  by_cases h : okU a b c
  · obtain ⟨p1, p2, p3, e, m1⟩ : ∃ p1 p2 p3 e, unit_Mul.f a b c x y z = some (p1, p2, p3, e) := ⟨_, _, _, _, rfl⟩
    obtain ⟨q1, q2, q3, j, m3⟩ : ∃ p1 p2 p3 e, unit_Mul.f x y z s t u = some (p1, p2, p3, e) := ⟨_, _, _, _, rfl⟩
    obtain ⟨r1, r2, r3, k, m4⟩ : ∃ r1 r2 r3 e, unit_Mul.f p1 p2 p3 s t u = some (r1, r2, r3, e) := ⟨_, _, _, _, rfl⟩
    obtain ⟨s1, s2, s3, l, m5⟩ : ∃ r1 r2 r3 e, unit_Mul.f a b c q1 q2 q3 = some (r1, r2, r3, e) := ⟨_, _, _, _, rfl⟩
    by_cases ze : e = 0
    · subst ze
      by_cases zj : j = 0
      · subst zj
        by_cases zk : k = 0
        · subst zk
          by_cases zl : l = 0
          · subst zl
            obtain ⟨_, _, rfl, rfl, rfl⟩ := mulF_is m1
            obtain ⟨_, _, rfl, rfl, rfl⟩ := mulF_is m3
            obtain ⟨_, _, rfl, rfl, rfl⟩ := mulF_is m4
            obtain ⟨_, _, rfl, rfl, rfl⟩ := mulF_is m5
            refine group_x a b c x y z s t u w hT _ _ _ _ _ _ _ _ _ 0 0 0 0 0 0 0 h m1 m3 m4 ?_
            rw [m5, Int.add_assoc, Int.add_assoc, Int.add_assoc]
          · exact group_l a b c x y z s t u w hT _ _ _ _ _ _ _ _ _ _ _ _ 0 0 0 _ h m1 m3 m4 m5 zl
        · exact group_k a b c x y z s t u w hT _ _ _ _ _ _ _ _ _ _ _ _ 0 0 _ _ h m1 m3 m4 m5 zk
      · exact group_j a b c x y z s t u w hT _ _ _ _ _ _ _ _ _ _ _ _ 0 _ _ _ h m1 m3 m4 m5 zj
    · exact group_e a b c x y z s t u w hT _ _ _ _ _ _ _ _ _ _ _ _ _ _ _ _ h m1 m3 m4 m5 ze
  · exact group_a a b c x y z s t u w hT h

end Go.Proofs.YtifamjapgpcjjaaDoor.Ext
