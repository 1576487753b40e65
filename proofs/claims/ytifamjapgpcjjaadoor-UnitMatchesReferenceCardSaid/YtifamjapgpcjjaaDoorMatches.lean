/- UnitMatchesReference: walked; it ends in true. -/
import Derived.Test.YtifamjapgpcjjaaDoorRefParse
namespace Go.Proofs.YtifamjapgpcjjaaDoor.Ext
open Go Go.Proofs Go.RowKit Go.Proofs.YtifamjapgpcjjaaDoorW.PrintWords Go.Proofs.YtifamjapgpcjjaaDoor.H
set_option linter.unusedVariables false
set_option linter.unusedSimpArgs false

set_option maxRecDepth 100000 in
set_option maxHeartbeats 8000000 in
theorem matches_long (a b c x y z n : Int) (s : ByteArray) (w : World) (hT : Tabs w) (hs : 200 < s.size) :
    Calls Tryd.prog 3 #[.agg #[.int .i64 a, .int .i64 b, .int .i64 c], .agg #[.int .i64 x, .int .i64 y, .int .i64 z], .int .i64 n, .string s] w fun e w' => e = .returned (.bool true) ∧ Below w.heap.size w w' := by
  have HT := Lib.hid hT
  clear hT
  have h2 := alloc2_blk w (.cells #[.int .i64 a, .int .i64 b, .int .i64 c] 23) (.cells #[.int .i64 x, .int .i64 y, .int .i64 z] 23)
  go_enter Tryd.func3, Tryd.ntmps3
  go_wp2_with fail
  refine (head.calls true _ ((HT.out.alloc _).alloc _) rfl).mono ?_
  rintro e w1 ⟨rfl, hb1⟩
  have KA : Hid (w1.heap[w.heap.size]? = some (.cells #[.int .i64 a, .int .i64 b, .int .i64 c] 23 (0, 0))) := blk_below h2.1 hb1
  have KB : Hid (w1.heap[w.heap.size + 1]? = some (.cells #[.int .i64 x, .int .i64 y, .int .i64 z] 23 (0, 0))) := blk_below h2.2 hb1
  have cA_0 := blk_cell KA.out 0
  have fA_0 := blk_frozen KA.out 0
  have cA_1 := blk_cell KA.out 1
  have fA_1 := blk_frozen KA.out 1
  have cA_2 := blk_cell KA.out 2
  have fA_2 := blk_frozen KA.out 2
  have cB_0 := blk_cell KB.out 0
  have fB_0 := blk_frozen KB.out 0
  have cB_1 := blk_cell KB.out 1
  have fB_1 := blk_frozen KB.out 1
  have cB_2 := blk_cell KB.out 2
  have fB_2 := blk_frozen KB.out 2
  have HB : Hid (Below w.heap.size w w1) := below_step (by repeat (first | (with_reducible first | exact HB.out | exact Below.refl _ _ | apply below_alloc | apply bdr | apply below_drew1) | (refine below_set ?_ (by first | omega | (simp; done) | (simp; omega))) | exact HB.out | exact Below.refl _ _)) hb1
  clear hb1
  clear h2
  have hlA := blk_lt KA.out
  have hlB := blk_lt KB.out
  go_wp2_with fail
  go_ret
  exact ⟨rfl, HB.out⟩

set_option maxRecDepth 100000 in
set_option maxHeartbeats 8000000 in
theorem matches_all (a b c x y z n : Int) (s : ByteArray) (w : World) (hT : Tabs w) (hs : s.size ≤ 200) (c1 c2 c3 x1 x2 x3 p1 p2 p3 e1 e2 e3 e4 : Int) (st : ByteArray) (m : unit_Mul.f a b c x y z = some (c1, c2, c3, e1)) (p : unit_Power.f a b c n = some (x1, x2, x3, e2)) (t : unit_Text.f a b c = some (st, e3)) (q : unit_Parse.f s = some (p1, p2, p3, e4)) :
    Calls Tryd.prog 3 #[.agg #[.int .i64 a, .int .i64 b, .int .i64 c], .agg #[.int .i64 x, .int .i64 y, .int .i64 z], .int .i64 n, .string s] w fun e w' => e = .returned (.bool true) ∧ Below w.heap.size w w' := by
  have HT := Lib.hid hT
  clear hT
  have M := Lib.hid m
  clear m
  have P := Lib.hid p
  clear p
  have Tt := Lib.hid t
  clear t
  have Q := Lib.hid q
  clear q
  have h2 := alloc2_blk w (.cells #[.int .i64 a, .int .i64 b, .int .i64 c] 23) (.cells #[.int .i64 x, .int .i64 y, .int .i64 z] 23)
  go_enter Tryd.func3, Tryd.ntmps3
  go_wp2_with fail
  refine (head.calls true _ ((HT.out.alloc _).alloc _) rfl).mono ?_
  rintro e w1 ⟨rfl, hb1⟩
  have KA : Hid (w1.heap[w.heap.size]? = some (.cells #[.int .i64 a, .int .i64 b, .int .i64 c] 23 (0, 0))) := blk_below h2.1 hb1
  have KB : Hid (w1.heap[w.heap.size + 1]? = some (.cells #[.int .i64 x, .int .i64 y, .int .i64 z] 23 (0, 0))) := blk_below h2.2 hb1
  have cA_0 := blk_cell KA.out 0
  have fA_0 := blk_frozen KA.out 0
  have cA_1 := blk_cell KA.out 1
  have fA_1 := blk_frozen KA.out 1
  have cA_2 := blk_cell KA.out 2
  have fA_2 := blk_frozen KA.out 2
  have cB_0 := blk_cell KB.out 0
  have fB_0 := blk_frozen KB.out 0
  have cB_1 := blk_cell KB.out 1
  have fB_1 := blk_frozen KB.out 1
  have cB_2 := blk_cell KB.out 2
  have fB_2 := blk_frozen KB.out 2
  have HB : Hid (Below w.heap.size w w1) := below_step (by repeat (first | (with_reducible first | exact HB.out | exact Below.refl _ _ | apply below_alloc | apply bdr | apply below_drew1) | (refine below_set ?_ (by first | omega | (simp; done) | (simp; omega))) | exact HB.out | exact Below.refl _ _)) hb1
  clear hb1
  clear h2
  have hlA := blk_lt KA.out
  have hlB := blk_lt KB.out
  go_wp2_with fail
  refine (unit_Mul.calls _ _ _ _ _ _ _ _ _ _ _ M.out).mono ?_
  rintro e w2 ⟨rfl, hb2⟩
  clear cA_0 fA_0 cA_1 fA_1 cA_2 fA_2
  replace KA : Hid (w2.heap[w.heap.size]? = some (.cells #[.int .i64 a, .int .i64 b, .int .i64 c] 23 (0, 0))) := blk_below (by repeat (first | (with_reducible first | exact KA.out | apply blk_drewN | apply blk_drew | apply blk_alloc) | exact KA.out)) hb2
  have cA_0 := blk_cell KA.out 0
  have fA_0 := blk_frozen KA.out 0
  have cA_1 := blk_cell KA.out 1
  have fA_1 := blk_frozen KA.out 1
  have cA_2 := blk_cell KA.out 2
  have fA_2 := blk_frozen KA.out 2
  clear cB_0 fB_0 cB_1 fB_1 cB_2 fB_2
  replace KB : Hid (w2.heap[w.heap.size + 1]? = some (.cells #[.int .i64 x, .int .i64 y, .int .i64 z] 23 (0, 0))) := blk_below (by repeat (first | (with_reducible first | exact KB.out | apply blk_drewN | apply blk_drew | apply blk_alloc) | exact KB.out)) hb2
  have cB_0 := blk_cell KB.out 0
  have fB_0 := blk_frozen KB.out 0
  have cB_1 := blk_cell KB.out 1
  have fB_1 := blk_frozen KB.out 1
  have cB_2 := blk_cell KB.out 2
  have fB_2 := blk_frozen KB.out 2
  replace HB : Hid (Below w.heap.size w w2) := below_step (by repeat (first | (with_reducible first | exact HB.out | exact Below.refl _ _ | apply below_alloc | apply bdr | apply below_drew1) | (refine below_set ?_ (by first | omega | (simp; done) | (simp; omega))) | exact HB.out | exact Below.refl _ _)) hb2
  clear hb2
  replace hlA := blk_lt KA.out
  replace hlB := blk_lt KB.out
  go_wp2_with fail
  refine (observatoryref32_Mul.calls 1 _ _ _ _ _ _ _ _ _ _ _ ((refMul _ _ _ _ _ _).trans M.out)).mono ?_
  rintro e w3 ⟨rfl, hb3⟩
  have KC : Hid (w3.heap[w2.heap.size]? = some (.cells #[.int .i64 c1, .int .i64 c2, .int .i64 c3] 23 (0, 0))) := blk_below (blk_new w2 (.cells #[.int .i64 c1, .int .i64 c2, .int .i64 c3] 23)) hb3
  clear cA_0 fA_0 cA_1 fA_1 cA_2 fA_2
  replace KA : Hid (w3.heap[w.heap.size]? = some (.cells #[.int .i64 a, .int .i64 b, .int .i64 c] 23 (0, 0))) := blk_below (by repeat (first | (with_reducible first | exact KA.out | apply blk_drewN | apply blk_drew | apply blk_alloc) | exact KA.out)) hb3
  have cA_0 := blk_cell KA.out 0
  have fA_0 := blk_frozen KA.out 0
  have cA_1 := blk_cell KA.out 1
  have fA_1 := blk_frozen KA.out 1
  have cA_2 := blk_cell KA.out 2
  have fA_2 := blk_frozen KA.out 2
  clear cB_0 fB_0 cB_1 fB_1 cB_2 fB_2
  replace KB : Hid (w3.heap[w.heap.size + 1]? = some (.cells #[.int .i64 x, .int .i64 y, .int .i64 z] 23 (0, 0))) := blk_below (by repeat (first | (with_reducible first | exact KB.out | apply blk_drewN | apply blk_drew | apply blk_alloc) | exact KB.out)) hb3
  have cB_0 := blk_cell KB.out 0
  have fB_0 := blk_frozen KB.out 0
  have cB_1 := blk_cell KB.out 1
  have fB_1 := blk_frozen KB.out 1
  have cB_2 := blk_cell KB.out 2
  have fB_2 := blk_frozen KB.out 2
  have cC_0 := blk_cell KC.out 0
  have fC_0 := blk_frozen KC.out 0
  have cC_1 := blk_cell KC.out 1
  have fC_1 := blk_frozen KC.out 1
  have cC_2 := blk_cell KC.out 2
  have fC_2 := blk_frozen KC.out 2
  replace HB : Hid (Below w.heap.size w w3) := below_step (by repeat (first | (with_reducible first | exact HB.out | exact Below.refl _ _ | apply below_alloc | apply bdr | apply below_drew1) | (refine below_set ?_ (by first | omega | (simp; done) | (simp; omega))) | exact HB.out | exact Below.refl _ _)) hb3
  clear hb3
  replace hlA := blk_lt KA.out
  replace hlB := blk_lt KB.out
  have hlC := blk_lt KC.out
  go_wp2_with fail
  refine (unit_Power.calls _ _ _ _ _ _ _ _ _ P.out).mono ?_
  rintro e w4 ⟨rfl, hb4⟩
  have KD : Hid (w4.heap[w3.heap.size]? = some (.cells #[.int .i64 c1, .int .i64 c2, .int .i64 c3] 23 (0, 0))) := blk_below (blk_new w3 (.cells #[.int .i64 c1, .int .i64 c2, .int .i64 c3] 23)) hb4
  clear cA_0 fA_0 cA_1 fA_1 cA_2 fA_2
  replace KA : Hid (w4.heap[w.heap.size]? = some (.cells #[.int .i64 a, .int .i64 b, .int .i64 c] 23 (0, 0))) := blk_below (by repeat (first | (with_reducible first | exact KA.out | apply blk_drewN | apply blk_drew | apply blk_alloc) | exact KA.out)) hb4
  have cA_0 := blk_cell KA.out 0
  have fA_0 := blk_frozen KA.out 0
  have cA_1 := blk_cell KA.out 1
  have fA_1 := blk_frozen KA.out 1
  have cA_2 := blk_cell KA.out 2
  have fA_2 := blk_frozen KA.out 2
  clear cB_0 fB_0 cB_1 fB_1 cB_2 fB_2
  replace KB : Hid (w4.heap[w.heap.size + 1]? = some (.cells #[.int .i64 x, .int .i64 y, .int .i64 z] 23 (0, 0))) := blk_below (by repeat (first | (with_reducible first | exact KB.out | apply blk_drewN | apply blk_drew | apply blk_alloc) | exact KB.out)) hb4
  have cB_0 := blk_cell KB.out 0
  have fB_0 := blk_frozen KB.out 0
  have cB_1 := blk_cell KB.out 1
  have fB_1 := blk_frozen KB.out 1
  have cB_2 := blk_cell KB.out 2
  have fB_2 := blk_frozen KB.out 2
  clear cC_0 fC_0 cC_1 fC_1 cC_2 fC_2
  replace KC : Hid (w4.heap[w2.heap.size]? = some (.cells #[.int .i64 c1, .int .i64 c2, .int .i64 c3] 23 (0, 0))) := blk_below (by repeat (first | (with_reducible first | exact KC.out | apply blk_drewN | apply blk_drew | apply blk_alloc) | exact KC.out)) hb4
  have cC_0 := blk_cell KC.out 0
  have fC_0 := blk_frozen KC.out 0
  have cC_1 := blk_cell KC.out 1
  have fC_1 := blk_frozen KC.out 1
  have cC_2 := blk_cell KC.out 2
  have fC_2 := blk_frozen KC.out 2
  have cD_0 := blk_cell KD.out 0
  have fD_0 := blk_frozen KD.out 0
  have cD_1 := blk_cell KD.out 1
  have fD_1 := blk_frozen KD.out 1
  have cD_2 := blk_cell KD.out 2
  have fD_2 := blk_frozen KD.out 2
  replace HB : Hid (Below w.heap.size w w4) := below_step (by repeat (first | (with_reducible first | exact HB.out | exact Below.refl _ _ | apply below_alloc | apply bdr | apply below_drew1) | (refine below_set ?_ (by first | omega | (simp; done) | (simp; omega))) | exact HB.out | exact Below.refl _ _)) hb4
  clear hb4
  replace hlA := blk_lt KA.out
  replace hlB := blk_lt KB.out
  replace hlC := blk_lt KC.out
  have hlD := blk_lt KD.out
  go_wp2_with fail
  clear cB_0 fB_0 cB_1 fB_1 cB_2 fB_2
  clear hlB KB
  refine (observatoryref32_Power.calls 1 _ _ _ _ _ _ _ _ _ ((refPower _ _ _ _).trans P.out)).mono ?_
  rintro e w5 ⟨rfl, hb5⟩
  have KX : Hid (w5.heap[w4.heap.size]? = some (.cells #[.int .i64 x1, .int .i64 x2, .int .i64 x3] 23 (0, 0))) := blk_below (blk_new w4 (.cells #[.int .i64 x1, .int .i64 x2, .int .i64 x3] 23)) hb5
  clear cA_0 fA_0 cA_1 fA_1 cA_2 fA_2
  replace KA : Hid (w5.heap[w.heap.size]? = some (.cells #[.int .i64 a, .int .i64 b, .int .i64 c] 23 (0, 0))) := blk_below (by repeat (first | (with_reducible first | exact KA.out | apply blk_drewN | apply blk_drew | apply blk_alloc) | exact KA.out)) hb5
  have cA_0 := blk_cell KA.out 0
  have fA_0 := blk_frozen KA.out 0
  have cA_1 := blk_cell KA.out 1
  have fA_1 := blk_frozen KA.out 1
  have cA_2 := blk_cell KA.out 2
  have fA_2 := blk_frozen KA.out 2
  clear cC_0 fC_0 cC_1 fC_1 cC_2 fC_2
  replace KC : Hid (w5.heap[w2.heap.size]? = some (.cells #[.int .i64 c1, .int .i64 c2, .int .i64 c3] 23 (0, 0))) := blk_below (by repeat (first | (with_reducible first | exact KC.out | apply blk_drewN | apply blk_drew | apply blk_alloc) | exact KC.out)) hb5
  have cC_0 := blk_cell KC.out 0
  have fC_0 := blk_frozen KC.out 0
  have cC_1 := blk_cell KC.out 1
  have fC_1 := blk_frozen KC.out 1
  have cC_2 := blk_cell KC.out 2
  have fC_2 := blk_frozen KC.out 2
  clear cD_0 fD_0 cD_1 fD_1 cD_2 fD_2
  replace KD : Hid (w5.heap[w3.heap.size]? = some (.cells #[.int .i64 c1, .int .i64 c2, .int .i64 c3] 23 (0, 0))) := blk_below (by repeat (first | (with_reducible first | exact KD.out | apply blk_drewN | apply blk_drew | apply blk_alloc) | exact KD.out)) hb5
  have cD_0 := blk_cell KD.out 0
  have fD_0 := blk_frozen KD.out 0
  have cD_1 := blk_cell KD.out 1
  have fD_1 := blk_frozen KD.out 1
  have cD_2 := blk_cell KD.out 2
  have fD_2 := blk_frozen KD.out 2
  have cX_0 := blk_cell KX.out 0
  have fX_0 := blk_frozen KX.out 0
  have cX_1 := blk_cell KX.out 1
  have fX_1 := blk_frozen KX.out 1
  have cX_2 := blk_cell KX.out 2
  have fX_2 := blk_frozen KX.out 2
  replace HB : Hid (Below w.heap.size w w5) := below_step (by repeat (first | (with_reducible first | exact HB.out | exact Below.refl _ _ | apply below_alloc | apply bdr | apply below_drew1) | (refine below_set ?_ (by first | omega | (simp; done) | (simp; omega))) | exact HB.out | exact Below.refl _ _)) hb5
  clear hb5
  replace hlA := blk_lt KA.out
  replace hlC := blk_lt KC.out
  replace hlD := blk_lt KD.out
  have hlX := blk_lt KX.out
  go_wp2_with fail
  refine (unit_Text.calls _ _ _ _ _ _ ((HT.out.below HB.out).alloc _) Tt.out).mono ?_
  rintro e w6 ⟨rfl, hb6⟩
  have KY : Hid (w6.heap[w5.heap.size]? = some (.cells #[.int .i64 x1, .int .i64 x2, .int .i64 x3] 23 (0, 0))) := blk_below (blk_new w5 (.cells #[.int .i64 x1, .int .i64 x2, .int .i64 x3] 23)) hb6
  clear cA_0 fA_0 cA_1 fA_1 cA_2 fA_2
  replace KA : Hid (w6.heap[w.heap.size]? = some (.cells #[.int .i64 a, .int .i64 b, .int .i64 c] 23 (0, 0))) := blk_below (by repeat (first | (with_reducible first | exact KA.out | apply blk_drewN | apply blk_drew | apply blk_alloc) | exact KA.out)) hb6
  have cA_0 := blk_cell KA.out 0
  have fA_0 := blk_frozen KA.out 0
  have cA_1 := blk_cell KA.out 1
  have fA_1 := blk_frozen KA.out 1
  have cA_2 := blk_cell KA.out 2
  have fA_2 := blk_frozen KA.out 2
  clear cC_0 fC_0 cC_1 fC_1 cC_2 fC_2
  replace KC : Hid (w6.heap[w2.heap.size]? = some (.cells #[.int .i64 c1, .int .i64 c2, .int .i64 c3] 23 (0, 0))) := blk_below (by repeat (first | (with_reducible first | exact KC.out | apply blk_drewN | apply blk_drew | apply blk_alloc) | exact KC.out)) hb6
  have cC_0 := blk_cell KC.out 0
  have fC_0 := blk_frozen KC.out 0
  have cC_1 := blk_cell KC.out 1
  have fC_1 := blk_frozen KC.out 1
  have cC_2 := blk_cell KC.out 2
  have fC_2 := blk_frozen KC.out 2
  clear cD_0 fD_0 cD_1 fD_1 cD_2 fD_2
  replace KD : Hid (w6.heap[w3.heap.size]? = some (.cells #[.int .i64 c1, .int .i64 c2, .int .i64 c3] 23 (0, 0))) := blk_below (by repeat (first | (with_reducible first | exact KD.out | apply blk_drewN | apply blk_drew | apply blk_alloc) | exact KD.out)) hb6
  have cD_0 := blk_cell KD.out 0
  have fD_0 := blk_frozen KD.out 0
  have cD_1 := blk_cell KD.out 1
  have fD_1 := blk_frozen KD.out 1
  have cD_2 := blk_cell KD.out 2
  have fD_2 := blk_frozen KD.out 2
  clear cX_0 fX_0 cX_1 fX_1 cX_2 fX_2
  replace KX : Hid (w6.heap[w4.heap.size]? = some (.cells #[.int .i64 x1, .int .i64 x2, .int .i64 x3] 23 (0, 0))) := blk_below (by repeat (first | (with_reducible first | exact KX.out | apply blk_drewN | apply blk_drew | apply blk_alloc) | exact KX.out)) hb6
  have cX_0 := blk_cell KX.out 0
  have fX_0 := blk_frozen KX.out 0
  have cX_1 := blk_cell KX.out 1
  have fX_1 := blk_frozen KX.out 1
  have cX_2 := blk_cell KX.out 2
  have fX_2 := blk_frozen KX.out 2
  have cY_0 := blk_cell KY.out 0
  have fY_0 := blk_frozen KY.out 0
  have cY_1 := blk_cell KY.out 1
  have fY_1 := blk_frozen KY.out 1
  have cY_2 := blk_cell KY.out 2
  have fY_2 := blk_frozen KY.out 2
  replace HB : Hid (Below w.heap.size w w6) := below_step (by repeat (first | (with_reducible first | exact HB.out | exact Below.refl _ _ | apply below_alloc | apply bdr | apply below_drew1) | (refine below_set ?_ (by first | omega | (simp; done) | (simp; omega))) | exact HB.out | exact Below.refl _ _)) hb6
  clear hb6
  replace hlA := blk_lt KA.out
  replace hlC := blk_lt KC.out
  replace hlD := blk_lt KD.out
  replace hlX := blk_lt KX.out
  have hlY := blk_lt KY.out
  go_wp2_with fail
  refine (observatoryref32_Text.calls 1 _ _ _ _ _ _ ((refText 0 _ _ _).trans Tt.out)).mono ?_
  rintro e w7 ⟨rfl, hb7⟩
  clear cA_0 fA_0 cA_1 fA_1 cA_2 fA_2
  replace KA : Hid (w7.heap[w.heap.size]? = some (.cells #[.int .i64 a, .int .i64 b, .int .i64 c] 23 (0, 0))) := blk_below (by repeat (first | (with_reducible first | exact KA.out | apply blk_drewN | apply blk_drew | apply blk_alloc) | exact KA.out)) hb7
  have cA_0 := blk_cell KA.out 0
  have fA_0 := blk_frozen KA.out 0
  have cA_1 := blk_cell KA.out 1
  have fA_1 := blk_frozen KA.out 1
  have cA_2 := blk_cell KA.out 2
  have fA_2 := blk_frozen KA.out 2
  clear cC_0 fC_0 cC_1 fC_1 cC_2 fC_2
  replace KC : Hid (w7.heap[w2.heap.size]? = some (.cells #[.int .i64 c1, .int .i64 c2, .int .i64 c3] 23 (0, 0))) := blk_below (by repeat (first | (with_reducible first | exact KC.out | apply blk_drewN | apply blk_drew | apply blk_alloc) | exact KC.out)) hb7
  have cC_0 := blk_cell KC.out 0
  have fC_0 := blk_frozen KC.out 0
  have cC_1 := blk_cell KC.out 1
  have fC_1 := blk_frozen KC.out 1
  have cC_2 := blk_cell KC.out 2
  have fC_2 := blk_frozen KC.out 2
  clear cD_0 fD_0 cD_1 fD_1 cD_2 fD_2
  replace KD : Hid (w7.heap[w3.heap.size]? = some (.cells #[.int .i64 c1, .int .i64 c2, .int .i64 c3] 23 (0, 0))) := blk_below (by repeat (first | (with_reducible first | exact KD.out | apply blk_drewN | apply blk_drew | apply blk_alloc) | exact KD.out)) hb7
  have cD_0 := blk_cell KD.out 0
  have fD_0 := blk_frozen KD.out 0
  have cD_1 := blk_cell KD.out 1
  have fD_1 := blk_frozen KD.out 1
  have cD_2 := blk_cell KD.out 2
  have fD_2 := blk_frozen KD.out 2
  clear cX_0 fX_0 cX_1 fX_1 cX_2 fX_2
  replace KX : Hid (w7.heap[w4.heap.size]? = some (.cells #[.int .i64 x1, .int .i64 x2, .int .i64 x3] 23 (0, 0))) := blk_below (by repeat (first | (with_reducible first | exact KX.out | apply blk_drewN | apply blk_drew | apply blk_alloc) | exact KX.out)) hb7
  have cX_0 := blk_cell KX.out 0
  have fX_0 := blk_frozen KX.out 0
  have cX_1 := blk_cell KX.out 1
  have fX_1 := blk_frozen KX.out 1
  have cX_2 := blk_cell KX.out 2
  have fX_2 := blk_frozen KX.out 2
  clear cY_0 fY_0 cY_1 fY_1 cY_2 fY_2
  replace KY : Hid (w7.heap[w5.heap.size]? = some (.cells #[.int .i64 x1, .int .i64 x2, .int .i64 x3] 23 (0, 0))) := blk_below (by repeat (first | (with_reducible first | exact KY.out | apply blk_drewN | apply blk_drew | apply blk_alloc) | exact KY.out)) hb7
  have cY_0 := blk_cell KY.out 0
  have fY_0 := blk_frozen KY.out 0
  have cY_1 := blk_cell KY.out 1
  have fY_1 := blk_frozen KY.out 1
  have cY_2 := blk_cell KY.out 2
  have fY_2 := blk_frozen KY.out 2
  replace HB : Hid (Below w.heap.size w w7) := below_step (by repeat (first | (with_reducible first | exact HB.out | exact Below.refl _ _ | apply below_alloc | apply bdr | apply below_drew1) | (refine below_set ?_ (by first | omega | (simp; done) | (simp; omega))) | exact HB.out | exact Below.refl _ _)) hb7
  clear hb7
  replace hlA := blk_lt KA.out
  replace hlC := blk_lt KC.out
  replace hlD := blk_lt KD.out
  replace hlX := blk_lt KX.out
  replace hlY := blk_lt KY.out
  go_wp2_with fail
  clear cA_0 fA_0 cA_1 fA_1 cA_2 fA_2
  clear hlA KA
  refine (unit_Parse.calls _ _ _ _ _ _ (HT.out.below HB.out) Q.out).mono ?_
  rintro e w8 ⟨rfl, hb8⟩
  clear cC_0 fC_0 cC_1 fC_1 cC_2 fC_2
  replace KC : Hid (w8.heap[w2.heap.size]? = some (.cells #[.int .i64 c1, .int .i64 c2, .int .i64 c3] 23 (0, 0))) := blk_below (by repeat (first | (with_reducible first | exact KC.out | apply blk_drewN | apply blk_drew | apply blk_alloc) | exact KC.out)) hb8
  have cC_0 := blk_cell KC.out 0
  have fC_0 := blk_frozen KC.out 0
  have cC_1 := blk_cell KC.out 1
  have fC_1 := blk_frozen KC.out 1
  have cC_2 := blk_cell KC.out 2
  have fC_2 := blk_frozen KC.out 2
  clear cD_0 fD_0 cD_1 fD_1 cD_2 fD_2
  replace KD : Hid (w8.heap[w3.heap.size]? = some (.cells #[.int .i64 c1, .int .i64 c2, .int .i64 c3] 23 (0, 0))) := blk_below (by repeat (first | (with_reducible first | exact KD.out | apply blk_drewN | apply blk_drew | apply blk_alloc) | exact KD.out)) hb8
  have cD_0 := blk_cell KD.out 0
  have fD_0 := blk_frozen KD.out 0
  have cD_1 := blk_cell KD.out 1
  have fD_1 := blk_frozen KD.out 1
  have cD_2 := blk_cell KD.out 2
  have fD_2 := blk_frozen KD.out 2
  clear cX_0 fX_0 cX_1 fX_1 cX_2 fX_2
  replace KX : Hid (w8.heap[w4.heap.size]? = some (.cells #[.int .i64 x1, .int .i64 x2, .int .i64 x3] 23 (0, 0))) := blk_below (by repeat (first | (with_reducible first | exact KX.out | apply blk_drewN | apply blk_drew | apply blk_alloc) | exact KX.out)) hb8
  have cX_0 := blk_cell KX.out 0
  have fX_0 := blk_frozen KX.out 0
  have cX_1 := blk_cell KX.out 1
  have fX_1 := blk_frozen KX.out 1
  have cX_2 := blk_cell KX.out 2
  have fX_2 := blk_frozen KX.out 2
  clear cY_0 fY_0 cY_1 fY_1 cY_2 fY_2
  replace KY : Hid (w8.heap[w5.heap.size]? = some (.cells #[.int .i64 x1, .int .i64 x2, .int .i64 x3] 23 (0, 0))) := blk_below (by repeat (first | (with_reducible first | exact KY.out | apply blk_drewN | apply blk_drew | apply blk_alloc) | exact KY.out)) hb8
  have cY_0 := blk_cell KY.out 0
  have fY_0 := blk_frozen KY.out 0
  have cY_1 := blk_cell KY.out 1
  have fY_1 := blk_frozen KY.out 1
  have cY_2 := blk_cell KY.out 2
  have fY_2 := blk_frozen KY.out 2
  replace HB : Hid (Below w.heap.size w w8) := below_step (by repeat (first | (with_reducible first | exact HB.out | exact Below.refl _ _ | apply below_alloc | apply bdr | apply below_drew1) | (refine below_set ?_ (by first | omega | (simp; done) | (simp; omega))) | exact HB.out | exact Below.refl _ _)) hb8
  clear hb8
  replace hlC := blk_lt KC.out
  replace hlD := blk_lt KD.out
  replace hlX := blk_lt KX.out
  replace hlY := blk_lt KY.out
  go_wp2_with fail
  refine (observatoryref32_Parse.calls 8000 _ _ _ _ _ _ ((refParse s hs).trans Q.out)).mono ?_
  rintro e w9 ⟨rfl, hb9⟩
  have KP : Hid (w9.heap[w8.heap.size]? = some (.cells #[.int .i64 p1, .int .i64 p2, .int .i64 p3] 23 (0, 0))) := blk_below (blk_new w8 (.cells #[.int .i64 p1, .int .i64 p2, .int .i64 p3] 23)) hb9
  clear cC_0 fC_0 cC_1 fC_1 cC_2 fC_2
  replace KC : Hid (w9.heap[w2.heap.size]? = some (.cells #[.int .i64 c1, .int .i64 c2, .int .i64 c3] 23 (0, 0))) := blk_below (by repeat (first | (with_reducible first | exact KC.out | apply blk_drewN | apply blk_drew | apply blk_alloc) | exact KC.out)) hb9
  have cC_0 := blk_cell KC.out 0
  have fC_0 := blk_frozen KC.out 0
  have cC_1 := blk_cell KC.out 1
  have fC_1 := blk_frozen KC.out 1
  have cC_2 := blk_cell KC.out 2
  have fC_2 := blk_frozen KC.out 2
  clear cD_0 fD_0 cD_1 fD_1 cD_2 fD_2
  replace KD : Hid (w9.heap[w3.heap.size]? = some (.cells #[.int .i64 c1, .int .i64 c2, .int .i64 c3] 23 (0, 0))) := blk_below (by repeat (first | (with_reducible first | exact KD.out | apply blk_drewN | apply blk_drew | apply blk_alloc) | exact KD.out)) hb9
  have cD_0 := blk_cell KD.out 0
  have fD_0 := blk_frozen KD.out 0
  have cD_1 := blk_cell KD.out 1
  have fD_1 := blk_frozen KD.out 1
  have cD_2 := blk_cell KD.out 2
  have fD_2 := blk_frozen KD.out 2
  clear cX_0 fX_0 cX_1 fX_1 cX_2 fX_2
  replace KX : Hid (w9.heap[w4.heap.size]? = some (.cells #[.int .i64 x1, .int .i64 x2, .int .i64 x3] 23 (0, 0))) := blk_below (by repeat (first | (with_reducible first | exact KX.out | apply blk_drewN | apply blk_drew | apply blk_alloc) | exact KX.out)) hb9
  have cX_0 := blk_cell KX.out 0
  have fX_0 := blk_frozen KX.out 0
  have cX_1 := blk_cell KX.out 1
  have fX_1 := blk_frozen KX.out 1
  have cX_2 := blk_cell KX.out 2
  have fX_2 := blk_frozen KX.out 2
  clear cY_0 fY_0 cY_1 fY_1 cY_2 fY_2
  replace KY : Hid (w9.heap[w5.heap.size]? = some (.cells #[.int .i64 x1, .int .i64 x2, .int .i64 x3] 23 (0, 0))) := blk_below (by repeat (first | (with_reducible first | exact KY.out | apply blk_drewN | apply blk_drew | apply blk_alloc) | exact KY.out)) hb9
  have cY_0 := blk_cell KY.out 0
  have fY_0 := blk_frozen KY.out 0
  have cY_1 := blk_cell KY.out 1
  have fY_1 := blk_frozen KY.out 1
  have cY_2 := blk_cell KY.out 2
  have fY_2 := blk_frozen KY.out 2
  have cP_0 := blk_cell KP.out 0
  have fP_0 := blk_frozen KP.out 0
  have cP_1 := blk_cell KP.out 1
  have fP_1 := blk_frozen KP.out 1
  have cP_2 := blk_cell KP.out 2
  have fP_2 := blk_frozen KP.out 2
  replace HB : Hid (Below w.heap.size w w9) := below_step (by repeat (first | (with_reducible first | exact HB.out | exact Below.refl _ _ | apply below_alloc | apply bdr | apply below_drew1) | (refine below_set ?_ (by first | omega | (simp; done) | (simp; omega))) | exact HB.out | exact Below.refl _ _)) hb9
  clear hb9
  replace hlC := blk_lt KC.out
  replace hlD := blk_lt KD.out
  replace hlX := blk_lt KX.out
  replace hlY := blk_lt KY.out
  have hlP := blk_lt KP.out
  go_wp2_with fail
  go_ret
  exact ⟨rfl, below_alloc HB.out _⟩

theorem matches_walk (a b c x y z n : Int) (s : ByteArray) (w : World) (hT : Tabs w) :
    Calls Tryd.prog 3 #[.agg #[.int .i64 a, .int .i64 b, .int .i64 c], .agg #[.int .i64 x, .int .i64 y, .int .i64 z], .int .i64 n, .string s] w fun e w' => e = .returned (.bool true) ∧ Below w.heap.size w w' := by
  by_cases hs : s.size ≤ 200
  · obtain ⟨p1, p2, p3, e4, q⟩ : ∃ p1 p2 p3 e4, unit_Parse.f s = some (p1, p2, p3, e4) := ⟨_, _, _, _, if_pos hs⟩
    exact matches_all a b c x y z n s w hT hs _ _ _ _ _ _ _ _ _ _ _ _ _ _ rfl rfl rfl q
  · exact matches_long a b c x y z n s w hT (by omega)

end Go.Proofs.YtifamjapgpcjjaaDoor.Ext
