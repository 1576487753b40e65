/- UnitPowers: walked; each guard is cut around; it ends in true. -/
import Derived.Test.YtifamjapgpcjjaaDoorGroup
import Derived.Deep.Cut
import Derived.Deep.CutRange
namespace Go.Proofs.YtifamjapgpcjjaaDoor.Ext
open Go Go.Proofs Go.RowKit Go.Proofs.YtifamjapgpcjjaaDoorW.PrintWords Go.Proofs.YtifamjapgpcjjaaDoor.H
set_option linter.unusedVariables false
set_option linter.unusedSimpArgs false

theorem powF_zero (a b c : Int) (h : okU a b c) : unit_Power.f a b c 0 = some (0, 0, 0, 0) := by unfold unit_Power.f; rw [power_zero' a b c h]
theorem powF_one (a b c : Int) (h : okU a b c) : unit_Power.f a b c 1 = some (a, b, c, 0) := by unfold unit_Power.f; rw [power_one' a b c h]
theorem powF_no (a b c n : Int) (h : ¬ okU a b c) : unit_Power.f a b c n = some (0, 0, 0, 1) := by unfold unit_Power.f; rw [power_no' a b c n h]
theorem powF_is {a b c n p q r : Int} (h : unit_Power.f a b c n = some (p, q, r, 0)) : okU a b c ∧ p = a * n ∧ q = b * n ∧ r = c * n := power_ok (Option.some.inj h)
theorem mod_bounds (n : Int) (h : 0 ≤ n ∧ n ≤ 255) : 0 ≤ n.tmod 41 ∧ n.tmod 41 ≤ 40 := by
  rw [Int.tmod_eq_emod_of_nonneg h.1]; omega
theorem prod_bounds (x y : Int) (hx : -20 ≤ x ∧ x ≤ 20) (hy : -20 ≤ y ∧ y ≤ 20) : -400 ≤ x * y ∧ x * y ≤ 400 := by
  have h : ∀ i ∈ List.range 41, ∀ j ∈ List.range 41, -400 ≤ ((i : Int) - 20) * ((j : Int) - 20) ∧ ((i : Int) - 20) * ((j : Int) - 20) ≤ 400 := by decide +kernel
  have := h (x + 20).toNat (by simp; omega) (y + 20).toNat (by simp; omega)
  rwa [show (((x + 20).toNat : Int) - 20) = x by omega, show (((y + 20).toNat : Int) - 20) = y by omega] at this

set_option maxRecDepth 100000 in
set_option maxHeartbeats 8000000 in
theorem powers_x (a b c x y z rn rm : Int) (hn : 0 ≤ rn ∧ rn ≤ 255) (hm : 0 ≤ rm ∧ rm ≤ 255) (w : World) (hT : Tabs w) (x1 x2 x3 y1 y2 y3 z1 z2 z3 v1 v2 v3 t1 t2 t3 u1 u2 u3 d1 d2 d3 p1 p2 p3 q1 q2 q3 r1 r2 r3 e f g h i j k l o s : Int) (px : unit_Power.f a b c (rn % 41 - 20) = some (x1, x2, x3, e)) (py : unit_Power.f a b c (rm % 41 - 20) = some (y1, y2, y3, f)) (pz : unit_Power.f a b c (rn % 41 - 20 + (rm % 41 - 20)) = some (z1, z2, z3, g)) (pv : unit_Mul.f x1 x2 x3 y1 y2 y3 = some (v1, v2, v3, h)) (pt : unit_Power.f x1 x2 x3 (rm % 41 - 20) = some (t1, t2, t3, i)) (pu : unit_Power.f a b c ((rn % 41 - 20) * (rm % 41 - 20)) = some (u1, u2, u3, j)) (pd : unit_Mul.f a b c x y z = some (d1, d2, d3, k)) (pp : unit_Power.f d1 d2 d3 (rn % 41 - 20) = some (p1, p2, p3, l)) (pq : unit_Power.f x y z (rn % 41 - 20) = some (q1, q2, q3, o)) (pr : unit_Mul.f x1 x2 x3 q1 q2 q3 = some (r1, r2, r3, s)) (g1 : (¬ e = 0) ∨ (e = 0 ∧ ¬ f = 0) ∨ (e = 0 ∧ f = 0 ∧ ¬ g = 0) ∨ (e = 0 ∧ f = 0 ∧ g = 0 ∧ ¬ h = 0) ∨ (e = 0 ∧ f = 0 ∧ g = 0 ∧ h = 0 ∧ v1 = z1 ∧ v2 = z2 ∧ v3 = z3)) (g2 : (¬ e = 0) ∨ (e = 0 ∧ ¬ i = 0) ∨ (e = 0 ∧ i = 0 ∧ ¬ j = 0) ∨ (e = 0 ∧ i = 0 ∧ j = 0 ∧ t1 = u1 ∧ t2 = u2 ∧ t3 = u3)) (g3 : (¬ k = 0) ∨ (k = 0 ∧ ¬ l = 0) ∨ (k = 0 ∧ l = 0 ∧ ¬ e = 0) ∨ (k = 0 ∧ l = 0 ∧ e = 0 ∧ ¬ o = 0) ∨ (k = 0 ∧ l = 0 ∧ e = 0 ∧ o = 0 ∧ ¬ s = 0) ∨ (k = 0 ∧ l = 0 ∧ e = 0 ∧ o = 0 ∧ s = 0 ∧ p1 = r1 ∧ p2 = r2 ∧ p3 = r3)) :
    Calls Tryd.prog 5 #[.agg #[.int .i64 a, .int .i64 b, .int .i64 c], .agg #[.int .i64 x, .int .i64 y, .int .i64 z], .int .u8 rn, .int .u8 rm] w fun e w' => e = .returned (.bool true) ∧ Below w.heap.size w w' := by
  have HT := Lib.hid hT
  clear hT
  have PX := Lib.hid px
  clear px
  have PY := Lib.hid py
  clear py
  have PZ := Lib.hid pz
  clear pz
  have PV := Lib.hid pv
  clear pv
  have PT := Lib.hid pt
  clear pt
  have PU := Lib.hid pu
  clear pu
  have PD := Lib.hid pd
  clear pd
  have PP := Lib.hid pp
  clear pp
  have PQ := Lib.hid pq
  clear pq
  have PR := Lib.hid pr
  clear pr
  have G1 := Lib.hid g1
  clear g1
  have G2 := Lib.hid g2
  clear g2
  have G3 := Lib.hid g3
  clear g3
  obtain ⟨nm1, nm2⟩ := prod_bounds (rn % 41 - 20) (rm % 41 - 20) (by omega) (by omega)
  obtain ⟨n1, n2⟩ := hn
  obtain ⟨m1, m2⟩ := hm
  have h2 := alloc2_blk w (.cells #[.int .i64 a, .int .i64 b, .int .i64 c] 23) (.cells #[.int .i64 x, .int .i64 y, .int .i64 z] 23)
  go_enter Tryd.func5, Tryd.ntmps5
  go_wp2_with fail
  refine (head.calls true _ ((HT.out.alloc _).alloc _) rfl).mono ?_
  rintro e w1 ⟨rfl, hb1⟩
  have KA : Hid (w1.heap[w.heap.size]? = some (.cells #[.int .i64 a, .int .i64 b, .int .i64 c] 23 (0, 0))) := blk_below h2.1 hb1
  have KB : Hid (w1.heap[w.heap.size + 1]? = some (.cells #[.int .i64 x, .int .i64 y, .int .i64 z] 23 (0, 0))) := blk_below h2.2 hb1
  have cA_0 := blk_cell KA.out 0
  have fA_0 := blk_frozen KA.out 0
  have cA_1 := blk_cell KA.out 1
  have fA_1 := blk_frozen KA.out 1
  have cA_2 := blk_cell KA.out 2
  have fA_2 := blk_frozen KA.out 2
  have cB_0 := blk_cell KB.out 0
  have fB_0 := blk_frozen KB.out 0
  have cB_1 := blk_cell KB.out 1
  have fB_1 := blk_frozen KB.out 1
  have cB_2 := blk_cell KB.out 2
  have fB_2 := blk_frozen KB.out 2
  have HB : Hid (Below w.heap.size w w1) := below_step (by repeat (first | (with_reducible first | exact HB.out | exact Below.refl _ _ | apply below_alloc | apply bdr | apply below_drew1) | (refine below_set ?_ (by first | omega | (simp; done) | (simp; omega))) | exact HB.out | exact Below.refl _ _)) hb1
  clear hb1
  clear h2
  have hlA := blk_lt KA.out
  have hlB := blk_lt KB.out
  go_wp2_with fail
  refine (unit_Power.calls _ _ _ _ _ _ _ _ _ PX.out).mono ?_
  rintro e w2 ⟨rfl, hb2⟩
  clear cA_0 fA_0 cA_1 fA_1 cA_2 fA_2
  replace KA : Hid (w2.heap[w.heap.size]? = some (.cells #[.int .i64 a, .int .i64 b, .int .i64 c] 23 (0, 0))) := blk_below (by repeat (first | (with_reducible first | exact KA.out | apply blk_drewN | apply blk_drew | apply blk_alloc) | exact KA.out)) hb2
  have cA_0 := blk_cell KA.out 0
  have fA_0 := blk_frozen KA.out 0
  have cA_1 := blk_cell KA.out 1
  have fA_1 := blk_frozen KA.out 1
  have cA_2 := blk_cell KA.out 2
  have fA_2 := blk_frozen KA.out 2
  clear cB_0 fB_0 cB_1 fB_1 cB_2 fB_2
  replace KB : Hid (w2.heap[w.heap.size + 1]? = some (.cells #[.int .i64 x, .int .i64 y, .int .i64 z] 23 (0, 0))) := blk_below (by repeat (first | (with_reducible first | exact KB.out | apply blk_drewN | apply blk_drew | apply blk_alloc) | exact KB.out)) hb2
  have cB_0 := blk_cell KB.out 0
  have fB_0 := blk_frozen KB.out 0
  have cB_1 := blk_cell KB.out 1
  have fB_1 := blk_frozen KB.out 1
  have cB_2 := blk_cell KB.out 2
  have fB_2 := blk_frozen KB.out 2
  replace HB : Hid (Below w.heap.size w w2) := below_step (by repeat (first | (with_reducible first | exact HB.out | exact Below.refl _ _ | apply below_alloc | apply bdr | apply below_drew1) | (refine below_set ?_ (by first | omega | (simp; done) | (simp; omega))) | exact HB.out | exact Below.refl _ _)) hb2
  clear hb2
  replace hlA := blk_lt KA.out
  replace hlB := blk_lt KB.out
  go_wp2_with fail
  refine (unit_Power.calls _ _ _ _ _ _ _ _ _ PY.out).mono ?_
  rintro e w3 ⟨rfl, hb3⟩
  have KX : Hid (w3.heap[w2.heap.size]? = some (.cells #[.int .i64 x1, .int .i64 x2, .int .i64 x3] 23 (0, 0))) := blk_below (blk_new w2 (.cells #[.int .i64 x1, .int .i64 x2, .int .i64 x3] 23)) hb3
  clear cA_0 fA_0 cA_1 fA_1 cA_2 fA_2
  replace KA : Hid (w3.heap[w.heap.size]? = some (.cells #[.int .i64 a, .int .i64 b, .int .i64 c] 23 (0, 0))) := blk_below (by repeat (first | (with_reducible first | exact KA.out | apply blk_drewN | apply blk_drew | apply blk_alloc) | exact KA.out)) hb3
  have cA_0 := blk_cell KA.out 0
  have fA_0 := blk_frozen KA.out 0
  have cA_1 := blk_cell KA.out 1
  have fA_1 := blk_frozen KA.out 1
  have cA_2 := blk_cell KA.out 2
  have fA_2 := blk_frozen KA.out 2
  clear cB_0 fB_0 cB_1 fB_1 cB_2 fB_2
  replace KB : Hid (w3.heap[w.heap.size + 1]? = some (.cells #[.int .i64 x, .int .i64 y, .int .i64 z] 23 (0, 0))) := blk_below (by repeat (first | (with_reducible first | exact KB.out | apply blk_drewN | apply blk_drew | apply blk_alloc) | exact KB.out)) hb3
  have cB_0 := blk_cell KB.out 0
  have fB_0 := blk_frozen KB.out 0
  have cB_1 := blk_cell KB.out 1
  have fB_1 := blk_frozen KB.out 1
  have cB_2 := blk_cell KB.out 2
  have fB_2 := blk_frozen KB.out 2
  have cX_0 := blk_cell KX.out 0
  have fX_0 := blk_frozen KX.out 0
  have cX_1 := blk_cell KX.out 1
  have fX_1 := blk_frozen KX.out 1
  have cX_2 := blk_cell KX.out 2
  have fX_2 := blk_frozen KX.out 2
  replace HB : Hid (Below w.heap.size w w3) := below_step (by repeat (first | (with_reducible first | exact HB.out | exact Below.refl _ _ | apply below_alloc | apply bdr | apply below_drew1) | (refine below_set ?_ (by first | omega | (simp; done) | (simp; omega))) | exact HB.out | exact Below.refl _ _)) hb3
  clear hb3
  replace hlA := blk_lt KA.out
  replace hlB := blk_lt KB.out
  have hlX := blk_lt KX.out
  go_wp2_with fail
  refine (unit_Power.calls _ _ _ _ _ _ _ _ _ PZ.out).mono ?_
  rintro e w4 ⟨rfl, hb4⟩
  have KY : Hid (w4.heap[w3.heap.size]? = some (.cells #[.int .i64 y1, .int .i64 y2, .int .i64 y3] 23 (0, 0))) := blk_below (blk_new w3 (.cells #[.int .i64 y1, .int .i64 y2, .int .i64 y3] 23)) hb4
  clear cA_0 fA_0 cA_1 fA_1 cA_2 fA_2
  replace KA : Hid (w4.heap[w.heap.size]? = some (.cells #[.int .i64 a, .int .i64 b, .int .i64 c] 23 (0, 0))) := blk_below (by repeat (first | (with_reducible first | exact KA.out | apply blk_drewN | apply blk_drew | apply blk_alloc) | exact KA.out)) hb4
  have cA_0 := blk_cell KA.out 0
  have fA_0 := blk_frozen KA.out 0
  have cA_1 := blk_cell KA.out 1
  have fA_1 := blk_frozen KA.out 1
  have cA_2 := blk_cell KA.out 2
  have fA_2 := blk_frozen KA.out 2
  clear cB_0 fB_0 cB_1 fB_1 cB_2 fB_2
  replace KB : Hid (w4.heap[w.heap.size + 1]? = some (.cells #[.int .i64 x, .int .i64 y, .int .i64 z] 23 (0, 0))) := blk_below (by repeat (first | (with_reducible first | exact KB.out | apply blk_drewN | apply blk_drew | apply blk_alloc) | exact KB.out)) hb4
  have cB_0 := blk_cell KB.out 0
  have fB_0 := blk_frozen KB.out 0
  have cB_1 := blk_cell KB.out 1
  have fB_1 := blk_frozen KB.out 1
  have cB_2 := blk_cell KB.out 2
  have fB_2 := blk_frozen KB.out 2
  clear cX_0 fX_0 cX_1 fX_1 cX_2 fX_2
  replace KX : Hid (w4.heap[w2.heap.size]? = some (.cells #[.int .i64 x1, .int .i64 x2, .int .i64 x3] 23 (0, 0))) := blk_below (by repeat (first | (with_reducible first | exact KX.out | apply blk_drewN | apply blk_drew | apply blk_alloc) | exact KX.out)) hb4
  have cX_0 := blk_cell KX.out 0
  have fX_0 := blk_frozen KX.out 0
  have cX_1 := blk_cell KX.out 1
  have fX_1 := blk_frozen KX.out 1
  have cX_2 := blk_cell KX.out 2
  have fX_2 := blk_frozen KX.out 2
  have cY_0 := blk_cell KY.out 0
  have fY_0 := blk_frozen KY.out 0
  have cY_1 := blk_cell KY.out 1
  have fY_1 := blk_frozen KY.out 1
  have cY_2 := blk_cell KY.out 2
  have fY_2 := blk_frozen KY.out 2
  replace HB : Hid (Below w.heap.size w w4) := below_step (by repeat (first | (with_reducible first | exact HB.out | exact Below.refl _ _ | apply below_alloc | apply bdr | apply below_drew1) | (refine below_set ?_ (by first | omega | (simp; done) | (simp; omega))) | exact HB.out | exact Below.refl _ _)) hb4
  clear hb4
  replace hlA := blk_lt KA.out
  replace hlB := blk_lt KB.out
  replace hlX := blk_lt KX.out
  have hlY := blk_lt KY.out
  go_wp2_with fail
  refine (unit_Mul.calls _ _ _ _ _ _ _ _ _ _ _ PV.out).mono ?_
  rintro e w5 ⟨rfl, hb5⟩
  have KZ : Hid (w5.heap[w4.heap.size]? = some (.cells #[.int .i64 z1, .int .i64 z2, .int .i64 z3] 23 (0, 0))) := blk_below (blk_new w4 (.cells #[.int .i64 z1, .int .i64 z2, .int .i64 z3] 23)) hb5
  clear cA_0 fA_0 cA_1 fA_1 cA_2 fA_2
  replace KA : Hid (w5.heap[w.heap.size]? = some (.cells #[.int .i64 a, .int .i64 b, .int .i64 c] 23 (0, 0))) := blk_below (by repeat (first | (with_reducible first | exact KA.out | apply blk_drewN | apply blk_drew | apply blk_alloc) | exact KA.out)) hb5
  have cA_0 := blk_cell KA.out 0
  have fA_0 := blk_frozen KA.out 0
  have cA_1 := blk_cell KA.out 1
  have fA_1 := blk_frozen KA.out 1
  have cA_2 := blk_cell KA.out 2
  have fA_2 := blk_frozen KA.out 2
  clear cB_0 fB_0 cB_1 fB_1 cB_2 fB_2
  replace KB : Hid (w5.heap[w.heap.size + 1]? = some (.cells #[.int .i64 x, .int .i64 y, .int .i64 z] 23 (0, 0))) := blk_below (by repeat (first | (with_reducible first | exact KB.out | apply blk_drewN | apply blk_drew | apply blk_alloc) | exact KB.out)) hb5
  have cB_0 := blk_cell KB.out 0
  have fB_0 := blk_frozen KB.out 0
  have cB_1 := blk_cell KB.out 1
  have fB_1 := blk_frozen KB.out 1
  have cB_2 := blk_cell KB.out 2
  have fB_2 := blk_frozen KB.out 2
  clear cX_0 fX_0 cX_1 fX_1 cX_2 fX_2
  replace KX : Hid (w5.heap[w2.heap.size]? = some (.cells #[.int .i64 x1, .int .i64 x2, .int .i64 x3] 23 (0, 0))) := blk_below (by repeat (first | (with_reducible first | exact KX.out | apply blk_drewN | apply blk_drew | apply blk_alloc) | exact KX.out)) hb5
  have cX_0 := blk_cell KX.out 0
  have fX_0 := blk_frozen KX.out 0
  have cX_1 := blk_cell KX.out 1
  have fX_1 := blk_frozen KX.out 1
  have cX_2 := blk_cell KX.out 2
  have fX_2 := blk_frozen KX.out 2
  clear cY_0 fY_0 cY_1 fY_1 cY_2 fY_2
  replace KY : Hid (w5.heap[w3.heap.size]? = some (.cells #[.int .i64 y1, .int .i64 y2, .int .i64 y3] 23 (0, 0))) := blk_below (by repeat (first | (with_reducible first | exact KY.out | apply blk_drewN | apply blk_drew | apply blk_alloc) | exact KY.out)) hb5
  have cY_0 := blk_cell KY.out 0
  have fY_0 := blk_frozen KY.out 0
  have cY_1 := blk_cell KY.out 1
  have fY_1 := blk_frozen KY.out 1
  have cY_2 := blk_cell KY.out 2
  have fY_2 := blk_frozen KY.out 2
  have cZ_0 := blk_cell KZ.out 0
  have fZ_0 := blk_frozen KZ.out 0
  have cZ_1 := blk_cell KZ.out 1
  have fZ_1 := blk_frozen KZ.out 1
  have cZ_2 := blk_cell KZ.out 2
  have fZ_2 := blk_frozen KZ.out 2
  replace HB : Hid (Below w.heap.size w w5) := below_step (by repeat (first | (with_reducible first | exact HB.out | exact Below.refl _ _ | apply below_alloc | apply bdr | apply below_drew1) | (refine below_set ?_ (by first | omega | (simp; done) | (simp; omega))) | exact HB.out | exact Below.refl _ _)) hb5
  clear hb5
  replace hlA := blk_lt KA.out
  replace hlB := blk_lt KB.out
  replace hlX := blk_lt KX.out
  replace hlY := blk_lt KY.out
  have hlZ := blk_lt KZ.out
  skip
  clear cY_0 fY_0 cY_1 fY_1 cY_2 fY_2
  clear hlY KY
  have KVn := blk_new w5 (.cells #[.int .i64 v1, .int .i64 v2, .int .i64 v3] 23)
  have cV_0 := blk_cell KVn 0
  have fV_0 := blk_frozen KVn 0
  have cV_1 := blk_cell KVn 1
  have fV_1 := blk_frozen KVn 1
  have cV_2 := blk_cell KVn 2
  have fV_2 := blk_frozen KVn 2
  go_upto_region 7 with (fail)
  go_cut [91] from 73 to 91 (fun v wc => v = .bool false ∧ wc = w5.alloc (.cells #[.int .i64 v1, .int .i64 v2, .int .i64 v3] 23))
  case first =>
    rcases G1.out with q | ⟨rfl, q⟩ | ⟨rfl, rfl, q⟩ | ⟨rfl, rfl, rfl, q⟩ | ⟨rfl, rfl, rfl, rfl, rfl, rfl, rfl⟩
    · have q1 : (e == 0) = false := by simpa using q
      have q2 : (e != 0) = true := by simpa using q
      go_wp2_with fail
      all_goals (go_meet; exact ⟨rfl, rfl⟩)
    · have q1 : (f == 0) = false := by simpa using q
      have q2 : (f != 0) = true := by simpa using q
      go_wp2_with fail
      all_goals (go_meet; exact ⟨rfl, rfl⟩)
    · have q1 : (g == 0) = false := by simpa using q
      have q2 : (g != 0) = true := by simpa using q
      go_wp2_with fail
      all_goals (go_meet; exact ⟨rfl, rfl⟩)
    · have q1 : (h == 0) = false := by simpa using q
      have q2 : (h != 0) = true := by simpa using q
      go_wp2_with fail
      all_goals (go_meet; exact ⟨rfl, rfl⟩)
    · go_wp2_with fail
      all_goals (go_meet; exact ⟨rfl, rfl⟩)
  case rest =>
    obtain ⟨rfl, rfl⟩ := hcut
    clear cV_0 cV_1 cV_2 fV_0 fV_1 fV_2 KVn
    go_wp2_with fail
    refine (unit_Power.calls _ _ _ _ _ _ _ _ _ PT.out).mono ?_
    rintro e w6 ⟨rfl, hb6⟩
    clear cA_0 fA_0 cA_1 fA_1 cA_2 fA_2
    replace KA : Hid (w6.heap[w.heap.size]? = some (.cells #[.int .i64 a, .int .i64 b, .int .i64 c] 23 (0, 0))) := blk_below (by repeat (first | (with_reducible first | exact KA.out | apply blk_drewN | apply blk_drew | apply blk_alloc) | exact KA.out)) hb6
    have cA_0 := blk_cell KA.out 0
    have fA_0 := blk_frozen KA.out 0
    have cA_1 := blk_cell KA.out 1
    have fA_1 := blk_frozen KA.out 1
    have cA_2 := blk_cell KA.out 2
    have fA_2 := blk_frozen KA.out 2
    clear cB_0 fB_0 cB_1 fB_1 cB_2 fB_2
    replace KB : Hid (w6.heap[w.heap.size + 1]? = some (.cells #[.int .i64 x, .int .i64 y, .int .i64 z] 23 (0, 0))) := blk_below (by repeat (first | (with_reducible first | exact KB.out | apply blk_drewN | apply blk_drew | apply blk_alloc) | exact KB.out)) hb6
    have cB_0 := blk_cell KB.out 0
    have fB_0 := blk_frozen KB.out 0
    have cB_1 := blk_cell KB.out 1
    have fB_1 := blk_frozen KB.out 1
    have cB_2 := blk_cell KB.out 2
    have fB_2 := blk_frozen KB.out 2
    clear cX_0 fX_0 cX_1 fX_1 cX_2 fX_2
    replace KX : Hid (w6.heap[w2.heap.size]? = some (.cells #[.int .i64 x1, .int .i64 x2, .int .i64 x3] 23 (0, 0))) := blk_below (by repeat (first | (with_reducible first | exact KX.out | apply blk_drewN | apply blk_drew | apply blk_alloc) | exact KX.out)) hb6
    have cX_0 := blk_cell KX.out 0
    have fX_0 := blk_frozen KX.out 0
    have cX_1 := blk_cell KX.out 1
    have fX_1 := blk_frozen KX.out 1
    have cX_2 := blk_cell KX.out 2
    have fX_2 := blk_frozen KX.out 2
    clear cZ_0 fZ_0 cZ_1 fZ_1 cZ_2 fZ_2
    replace KZ : Hid (w6.heap[w4.heap.size]? = some (.cells #[.int .i64 z1, .int .i64 z2, .int .i64 z3] 23 (0, 0))) := blk_below (by repeat (first | (with_reducible first | exact KZ.out | apply blk_drewN | apply blk_drew | apply blk_alloc) | exact KZ.out)) hb6
    have cZ_0 := blk_cell KZ.out 0
    have fZ_0 := blk_frozen KZ.out 0
    have cZ_1 := blk_cell KZ.out 1
    have fZ_1 := blk_frozen KZ.out 1
    have cZ_2 := blk_cell KZ.out 2
    have fZ_2 := blk_frozen KZ.out 2
    replace HB : Hid (Below w.heap.size w w6) := below_step (by repeat (first | (with_reducible first | exact HB.out | exact Below.refl _ _ | apply below_alloc | apply bdr | apply below_drew1) | (refine below_set ?_ (by first | omega | (simp; done) | (simp; omega))) | exact HB.out | exact Below.refl _ _)) hb6
    clear hb6
    replace hlA := blk_lt KA.out
    replace hlB := blk_lt KB.out
    replace hlX := blk_lt KX.out
    replace hlZ := blk_lt KZ.out
    go_wp2_with fail
    clear cZ_0 fZ_0 cZ_1 fZ_1 cZ_2 fZ_2
    clear hlZ KZ
    refine (unit_Power.calls _ _ _ _ _ _ _ _ _ PU.out).mono ?_
    rintro e w7 ⟨rfl, hb7⟩
    have KT : Hid (w7.heap[w6.heap.size]? = some (.cells #[.int .i64 t1, .int .i64 t2, .int .i64 t3] 23 (0, 0))) := blk_below (blk_new w6 (.cells #[.int .i64 t1, .int .i64 t2, .int .i64 t3] 23)) hb7
    clear cA_0 fA_0 cA_1 fA_1 cA_2 fA_2
    replace KA : Hid (w7.heap[w.heap.size]? = some (.cells #[.int .i64 a, .int .i64 b, .int .i64 c] 23 (0, 0))) := blk_below (by repeat (first | (with_reducible first | exact KA.out | apply blk_drewN | apply blk_drew | apply blk_alloc) | exact KA.out)) hb7
    have cA_0 := blk_cell KA.out 0
    have fA_0 := blk_frozen KA.out 0
    have cA_1 := blk_cell KA.out 1
    have fA_1 := blk_frozen KA.out 1
    have cA_2 := blk_cell KA.out 2
    have fA_2 := blk_frozen KA.out 2
    clear cB_0 fB_0 cB_1 fB_1 cB_2 fB_2
    replace KB : Hid (w7.heap[w.heap.size + 1]? = some (.cells #[.int .i64 x, .int .i64 y, .int .i64 z] 23 (0, 0))) := blk_below (by repeat (first | (with_reducible first | exact KB.out | apply blk_drewN | apply blk_drew | apply blk_alloc) | exact KB.out)) hb7
    have cB_0 := blk_cell KB.out 0
    have fB_0 := blk_frozen KB.out 0
    have cB_1 := blk_cell KB.out 1
    have fB_1 := blk_frozen KB.out 1
    have cB_2 := blk_cell KB.out 2
    have fB_2 := blk_frozen KB.out 2
    clear cX_0 fX_0 cX_1 fX_1 cX_2 fX_2
    replace KX : Hid (w7.heap[w2.heap.size]? = some (.cells #[.int .i64 x1, .int .i64 x2, .int .i64 x3] 23 (0, 0))) := blk_below (by repeat (first | (with_reducible first | exact KX.out | apply blk_drewN | apply blk_drew | apply blk_alloc) | exact KX.out)) hb7
    have cX_0 := blk_cell KX.out 0
    have fX_0 := blk_frozen KX.out 0
    have cX_1 := blk_cell KX.out 1
    have fX_1 := blk_frozen KX.out 1
    have cX_2 := blk_cell KX.out 2
    have fX_2 := blk_frozen KX.out 2
    have cT_0 := blk_cell KT.out 0
    have fT_0 := blk_frozen KT.out 0
    have cT_1 := blk_cell KT.out 1
    have fT_1 := blk_frozen KT.out 1
    have cT_2 := blk_cell KT.out 2
    have fT_2 := blk_frozen KT.out 2
    replace HB : Hid (Below w.heap.size w w7) := below_step (by repeat (first | (with_reducible first | exact HB.out | exact Below.refl _ _ | apply below_alloc | apply bdr | apply below_drew1) | (refine below_set ?_ (by first | omega | (simp; done) | (simp; omega))) | exact HB.out | exact Below.refl _ _)) hb7
    clear hb7
    replace hlA := blk_lt KA.out
    replace hlB := blk_lt KB.out
    replace hlX := blk_lt KX.out
    have hlT := blk_lt KT.out
    skip
    have KUn := blk_new w7 (.cells #[.int .i64 u1, .int .i64 u2, .int .i64 u3] 23)
    have cU_0 := blk_cell KUn 0
    have fU_0 := blk_frozen KUn 0
    have cU_1 := blk_cell KUn 1
    have fU_1 := blk_frozen KUn 1
    have cU_2 := blk_cell KUn 2
    have fU_2 := blk_frozen KUn 2
    go_upto_region 11 with (fail)
    go_cut [120] from 106 to 120 (fun v wc => v = .bool false ∧ wc = w7.alloc (.cells #[.int .i64 u1, .int .i64 u2, .int .i64 u3] 23))
    case first =>
      rcases G2.out with q | ⟨rfl, q⟩ | ⟨rfl, rfl, q⟩ | ⟨rfl, rfl, rfl, rfl, rfl, rfl⟩
      · have q1 : (e == 0) = false := by simpa using q
        have q2 : (e != 0) = true := by simpa using q
        go_wp2_with fail
        all_goals (go_meet; exact ⟨rfl, rfl⟩)
      · have q1 : (i == 0) = false := by simpa using q
        have q2 : (i != 0) = true := by simpa using q
        go_wp2_with fail
        all_goals (go_meet; exact ⟨rfl, rfl⟩)
      · have q1 : (j == 0) = false := by simpa using q
        have q2 : (j != 0) = true := by simpa using q
        go_wp2_with fail
        all_goals (go_meet; exact ⟨rfl, rfl⟩)
      · go_wp2_with fail
        all_goals (go_meet; exact ⟨rfl, rfl⟩)
    case rest =>
      obtain ⟨rfl, rfl⟩ := hcut
      clear cU_0 cU_1 cU_2 fU_0 fU_1 fU_2 KUn
      go_wp2_with fail
      refine (unit_Mul.calls _ _ _ _ _ _ _ _ _ _ _ PD.out).mono ?_
      rintro e w8 ⟨rfl, hb8⟩
      clear cA_0 fA_0 cA_1 fA_1 cA_2 fA_2
      replace KA : Hid (w8.heap[w.heap.size]? = some (.cells #[.int .i64 a, .int .i64 b, .int .i64 c] 23 (0, 0))) := blk_below (by repeat (first | (with_reducible first | exact KA.out | apply blk_drewN | apply blk_drew | apply blk_alloc) | exact KA.out)) hb8
      have cA_0 := blk_cell KA.out 0
      have fA_0 := blk_frozen KA.out 0
      have cA_1 := blk_cell KA.out 1
      have fA_1 := blk_frozen KA.out 1
      have cA_2 := blk_cell KA.out 2
      have fA_2 := blk_frozen KA.out 2
      clear cB_0 fB_0 cB_1 fB_1 cB_2 fB_2
      replace KB : Hid (w8.heap[w.heap.size + 1]? = some (.cells #[.int .i64 x, .int .i64 y, .int .i64 z] 23 (0, 0))) := blk_below (by repeat (first | (with_reducible first | exact KB.out | apply blk_drewN | apply blk_drew | apply blk_alloc) | exact KB.out)) hb8
      have cB_0 := blk_cell KB.out 0
      have fB_0 := blk_frozen KB.out 0
      have cB_1 := blk_cell KB.out 1
      have fB_1 := blk_frozen KB.out 1
      have cB_2 := blk_cell KB.out 2
      have fB_2 := blk_frozen KB.out 2
      clear cX_0 fX_0 cX_1 fX_1 cX_2 fX_2
      replace KX : Hid (w8.heap[w2.heap.size]? = some (.cells #[.int .i64 x1, .int .i64 x2, .int .i64 x3] 23 (0, 0))) := blk_below (by repeat (first | (with_reducible first | exact KX.out | apply blk_drewN | apply blk_drew | apply blk_alloc) | exact KX.out)) hb8
      have cX_0 := blk_cell KX.out 0
      have fX_0 := blk_frozen KX.out 0
      have cX_1 := blk_cell KX.out 1
      have fX_1 := blk_frozen KX.out 1
      have cX_2 := blk_cell KX.out 2
      have fX_2 := blk_frozen KX.out 2
      clear cT_0 fT_0 cT_1 fT_1 cT_2 fT_2
      replace KT : Hid (w8.heap[w6.heap.size]? = some (.cells #[.int .i64 t1, .int .i64 t2, .int .i64 t3] 23 (0, 0))) := blk_below (by repeat (first | (with_reducible first | exact KT.out | apply blk_drewN | apply blk_drew | apply blk_alloc) | exact KT.out)) hb8
      have cT_0 := blk_cell KT.out 0
      have fT_0 := blk_frozen KT.out 0
      have cT_1 := blk_cell KT.out 1
      have fT_1 := blk_frozen KT.out 1
      have cT_2 := blk_cell KT.out 2
      have fT_2 := blk_frozen KT.out 2
      replace HB : Hid (Below w.heap.size w w8) := below_step (by repeat (first | (with_reducible first | exact HB.out | exact Below.refl _ _ | apply below_alloc | apply bdr | apply below_drew1) | (refine below_set ?_ (by first | omega | (simp; done) | (simp; omega))) | exact HB.out | exact Below.refl _ _)) hb8
      clear hb8
      replace hlA := blk_lt KA.out
      replace hlB := blk_lt KB.out
      replace hlX := blk_lt KX.out
      replace hlT := blk_lt KT.out
      go_wp2_with fail
      clear cT_0 fT_0 cT_1 fT_1 cT_2 fT_2
      clear hlT KT
      refine (unit_Power.calls _ _ _ _ _ _ _ _ _ PP.out).mono ?_
      rintro e w9 ⟨rfl, hb9⟩
      have KD : Hid (w9.heap[w8.heap.size]? = some (.cells #[.int .i64 d1, .int .i64 d2, .int .i64 d3] 23 (0, 0))) := blk_below (blk_new w8 (.cells #[.int .i64 d1, .int .i64 d2, .int .i64 d3] 23)) hb9
      clear cA_0 fA_0 cA_1 fA_1 cA_2 fA_2
      replace KA : Hid (w9.heap[w.heap.size]? = some (.cells #[.int .i64 a, .int .i64 b, .int .i64 c] 23 (0, 0))) := blk_below (by repeat (first | (with_reducible first | exact KA.out | apply blk_drewN | apply blk_drew | apply blk_alloc) | exact KA.out)) hb9
      have cA_0 := blk_cell KA.out 0
      have fA_0 := blk_frozen KA.out 0
      have cA_1 := blk_cell KA.out 1
      have fA_1 := blk_frozen KA.out 1
      have cA_2 := blk_cell KA.out 2
      have fA_2 := blk_frozen KA.out 2
      clear cB_0 fB_0 cB_1 fB_1 cB_2 fB_2
      replace KB : Hid (w9.heap[w.heap.size + 1]? = some (.cells #[.int .i64 x, .int .i64 y, .int .i64 z] 23 (0, 0))) := blk_below (by repeat (first | (with_reducible first | exact KB.out | apply blk_drewN | apply blk_drew | apply blk_alloc) | exact KB.out)) hb9
      have cB_0 := blk_cell KB.out 0
      have fB_0 := blk_frozen KB.out 0
      have cB_1 := blk_cell KB.out 1
      have fB_1 := blk_frozen KB.out 1
      have cB_2 := blk_cell KB.out 2
      have fB_2 := blk_frozen KB.out 2
      clear cX_0 fX_0 cX_1 fX_1 cX_2 fX_2
      replace KX : Hid (w9.heap[w2.heap.size]? = some (.cells #[.int .i64 x1, .int .i64 x2, .int .i64 x3] 23 (0, 0))) := blk_below (by repeat (first | (with_reducible first | exact KX.out | apply blk_drewN | apply blk_drew | apply blk_alloc) | exact KX.out)) hb9
      have cX_0 := blk_cell KX.out 0
      have fX_0 := blk_frozen KX.out 0
      have cX_1 := blk_cell KX.out 1
      have fX_1 := blk_frozen KX.out 1
      have cX_2 := blk_cell KX.out 2
      have fX_2 := blk_frozen KX.out 2
      have cD_0 := blk_cell KD.out 0
      have fD_0 := blk_frozen KD.out 0
      have cD_1 := blk_cell KD.out 1
      have fD_1 := blk_frozen KD.out 1
      have cD_2 := blk_cell KD.out 2
      have fD_2 := blk_frozen KD.out 2
      replace HB : Hid (Below w.heap.size w w9) := below_step (by repeat (first | (with_reducible first | exact HB.out | exact Below.refl _ _ | apply below_alloc | apply bdr | apply below_drew1) | (refine below_set ?_ (by first | omega | (simp; done) | (simp; omega))) | exact HB.out | exact Below.refl _ _)) hb9
      clear hb9
      replace hlA := blk_lt KA.out
      replace hlB := blk_lt KB.out
      replace hlX := blk_lt KX.out
      have hlD := blk_lt KD.out
      go_wp2_with fail
      clear cD_0 fD_0 cD_1 fD_1 cD_2 fD_2
      clear hlD KD
      refine (unit_Power.calls _ _ _ _ _ _ _ _ _ PQ.out).mono ?_
      rintro e w10 ⟨rfl, hb10⟩
      have KP : Hid (w10.heap[w9.heap.size]? = some (.cells #[.int .i64 p1, .int .i64 p2, .int .i64 p3] 23 (0, 0))) := blk_below (blk_new w9 (.cells #[.int .i64 p1, .int .i64 p2, .int .i64 p3] 23)) hb10
      clear cA_0 fA_0 cA_1 fA_1 cA_2 fA_2
      replace KA : Hid (w10.heap[w.heap.size]? = some (.cells #[.int .i64 a, .int .i64 b, .int .i64 c] 23 (0, 0))) := blk_below (by repeat (first | (with_reducible first | exact KA.out | apply blk_drewN | apply blk_drew | apply blk_alloc) | exact KA.out)) hb10
      have cA_0 := blk_cell KA.out 0
      have fA_0 := blk_frozen KA.out 0
      have cA_1 := blk_cell KA.out 1
      have fA_1 := blk_frozen KA.out 1
      have cA_2 := blk_cell KA.out 2
      have fA_2 := blk_frozen KA.out 2
      clear cB_0 fB_0 cB_1 fB_1 cB_2 fB_2
      replace KB : Hid (w10.heap[w.heap.size + 1]? = some (.cells #[.int .i64 x, .int .i64 y, .int .i64 z] 23 (0, 0))) := blk_below (by repeat (first | (with_reducible first | exact KB.out | apply blk_drewN | apply blk_drew | apply blk_alloc) | exact KB.out)) hb10
      have cB_0 := blk_cell KB.out 0
      have fB_0 := blk_frozen KB.out 0
      have cB_1 := blk_cell KB.out 1
      have fB_1 := blk_frozen KB.out 1
      have cB_2 := blk_cell KB.out 2
      have fB_2 := blk_frozen KB.out 2
      clear cX_0 fX_0 cX_1 fX_1 cX_2 fX_2
      replace KX : Hid (w10.heap[w2.heap.size]? = some (.cells #[.int .i64 x1, .int .i64 x2, .int .i64 x3] 23 (0, 0))) := blk_below (by repeat (first | (with_reducible first | exact KX.out | apply blk_drewN | apply blk_drew | apply blk_alloc) | exact KX.out)) hb10
      have cX_0 := blk_cell KX.out 0
      have fX_0 := blk_frozen KX.out 0
      have cX_1 := blk_cell KX.out 1
      have fX_1 := blk_frozen KX.out 1
      have cX_2 := blk_cell KX.out 2
      have fX_2 := blk_frozen KX.out 2
      have cP_0 := blk_cell KP.out 0
      have fP_0 := blk_frozen KP.out 0
      have cP_1 := blk_cell KP.out 1
      have fP_1 := blk_frozen KP.out 1
      have cP_2 := blk_cell KP.out 2
      have fP_2 := blk_frozen KP.out 2
      replace HB : Hid (Below w.heap.size w w10) := below_step (by repeat (first | (with_reducible first | exact HB.out | exact Below.refl _ _ | apply below_alloc | apply bdr | apply below_drew1) | (refine below_set ?_ (by first | omega | (simp; done) | (simp; omega))) | exact HB.out | exact Below.refl _ _)) hb10
      clear hb10
      replace hlA := blk_lt KA.out
      replace hlB := blk_lt KB.out
      replace hlX := blk_lt KX.out
      have hlP := blk_lt KP.out
      go_wp2_with fail
      clear cB_0 fB_0 cB_1 fB_1 cB_2 fB_2
      clear hlB KB
      refine (unit_Mul.calls _ _ _ _ _ _ _ _ _ _ _ PR.out).mono ?_
      rintro e w11 ⟨rfl, hb11⟩
      have KQ : Hid (w11.heap[w10.heap.size]? = some (.cells #[.int .i64 q1, .int .i64 q2, .int .i64 q3] 23 (0, 0))) := blk_below (blk_new w10 (.cells #[.int .i64 q1, .int .i64 q2, .int .i64 q3] 23)) hb11
      clear cA_0 fA_0 cA_1 fA_1 cA_2 fA_2
      replace KA : Hid (w11.heap[w.heap.size]? = some (.cells #[.int .i64 a, .int .i64 b, .int .i64 c] 23 (0, 0))) := blk_below (by repeat (first | (with_reducible first | exact KA.out | apply blk_drewN | apply blk_drew | apply blk_alloc) | exact KA.out)) hb11
      have cA_0 := blk_cell KA.out 0
      have fA_0 := blk_frozen KA.out 0
      have cA_1 := blk_cell KA.out 1
      have fA_1 := blk_frozen KA.out 1
      have cA_2 := blk_cell KA.out 2
      have fA_2 := blk_frozen KA.out 2
      clear cX_0 fX_0 cX_1 fX_1 cX_2 fX_2
      replace KX : Hid (w11.heap[w2.heap.size]? = some (.cells #[.int .i64 x1, .int .i64 x2, .int .i64 x3] 23 (0, 0))) := blk_below (by repeat (first | (with_reducible first | exact KX.out | apply blk_drewN | apply blk_drew | apply blk_alloc) | exact KX.out)) hb11
      have cX_0 := blk_cell KX.out 0
      have fX_0 := blk_frozen KX.out 0
      have cX_1 := blk_cell KX.out 1
      have fX_1 := blk_frozen KX.out 1
      have cX_2 := blk_cell KX.out 2
      have fX_2 := blk_frozen KX.out 2
      clear cP_0 fP_0 cP_1 fP_1 cP_2 fP_2
      replace KP : Hid (w11.heap[w9.heap.size]? = some (.cells #[.int .i64 p1, .int .i64 p2, .int .i64 p3] 23 (0, 0))) := blk_below (by repeat (first | (with_reducible first | exact KP.out | apply blk_drewN | apply blk_drew | apply blk_alloc) | exact KP.out)) hb11
      have cP_0 := blk_cell KP.out 0
      have fP_0 := blk_frozen KP.out 0
      have cP_1 := blk_cell KP.out 1
      have fP_1 := blk_frozen KP.out 1
      have cP_2 := blk_cell KP.out 2
      have fP_2 := blk_frozen KP.out 2
      have cQ_0 := blk_cell KQ.out 0
      have fQ_0 := blk_frozen KQ.out 0
      have cQ_1 := blk_cell KQ.out 1
      have fQ_1 := blk_frozen KQ.out 1
      have cQ_2 := blk_cell KQ.out 2
      have fQ_2 := blk_frozen KQ.out 2
      replace HB : Hid (Below w.heap.size w w11) := below_step (by repeat (first | (with_reducible first | exact HB.out | exact Below.refl _ _ | apply below_alloc | apply bdr | apply below_drew1) | (refine below_set ?_ (by first | omega | (simp; done) | (simp; omega))) | exact HB.out | exact Below.refl _ _)) hb11
      clear hb11
      replace hlA := blk_lt KA.out
      replace hlX := blk_lt KX.out
      replace hlP := blk_lt KP.out
      have hlQ := blk_lt KQ.out
      skip
      clear cQ_0 fQ_0 cQ_1 fQ_1 cQ_2 fQ_2
      clear hlQ KQ
      clear cX_0 fX_0 cX_1 fX_1 cX_2 fX_2
      clear hlX KX
      have KRn := blk_new w11 (.cells #[.int .i64 r1, .int .i64 r2, .int .i64 r3] 23)
      have cR_0 := blk_cell KRn 0
      have fR_0 := blk_frozen KRn 0
      have cR_1 := blk_cell KRn 1
      have fR_1 := blk_frozen KRn 1
      have cR_2 := blk_cell KRn 2
      have fR_2 := blk_frozen KRn 2
      go_upto_region 17 with (fail)
      go_cut [167] from 145 to 167 (fun v wc => v = .bool false ∧ wc = w11.alloc (.cells #[.int .i64 r1, .int .i64 r2, .int .i64 r3] 23))
      case first =>
        rcases G3.out with q | ⟨rfl, q⟩ | ⟨rfl, rfl, q⟩ | ⟨rfl, rfl, rfl, q⟩ | ⟨rfl, rfl, rfl, rfl, q⟩ | ⟨rfl, rfl, rfl, rfl, rfl, rfl, rfl, rfl⟩
        · have q1 : (k == 0) = false := by simpa using q
          have q2 : (k != 0) = true := by simpa using q
          go_wp2_with fail
          all_goals (go_meet; exact ⟨rfl, rfl⟩)
        · have q1 : (l == 0) = false := by simpa using q
          have q2 : (l != 0) = true := by simpa using q
          go_wp2_with fail
          all_goals (go_meet; exact ⟨rfl, rfl⟩)
        · have q1 : (e == 0) = false := by simpa using q
          have q2 : (e != 0) = true := by simpa using q
          go_wp2_with fail
          all_goals (go_meet; exact ⟨rfl, rfl⟩)
        · have q1 : (o == 0) = false := by simpa using q
          have q2 : (o != 0) = true := by simpa using q
          go_wp2_with fail
          all_goals (go_meet; exact ⟨rfl, rfl⟩)
        · have q1 : (s == 0) = false := by simpa using q
          have q2 : (s != 0) = true := by simpa using q
          go_wp2_with fail
          all_goals (go_meet; exact ⟨rfl, rfl⟩)
        · go_wp2_with fail
          all_goals (go_meet; exact ⟨rfl, rfl⟩)
      case rest =>
        obtain ⟨rfl, rfl⟩ := hcut
        clear cR_0 cR_1 cR_2 fR_0 fR_1 fR_2 KRn
        go_wp2_with fail
        by_cases hok : okU a b c
        · skip
          refine (unit_Power.calls _ _ _ _ _ _ _ _ _ (powF_zero a b c hok)).mono ?_
          rintro e w12 ⟨rfl, hb12⟩
          clear cA_0 fA_0 cA_1 fA_1 cA_2 fA_2
          replace KA : Hid (w12.heap[w.heap.size]? = some (.cells #[.int .i64 a, .int .i64 b, .int .i64 c] 23 (0, 0))) := blk_below (by repeat (first | (with_reducible first | exact KA.out | apply blk_drewN | apply blk_drew | apply blk_alloc) | exact KA.out)) hb12
          have cA_0 := blk_cell KA.out 0
          have fA_0 := blk_frozen KA.out 0
          have cA_1 := blk_cell KA.out 1
          have fA_1 := blk_frozen KA.out 1
          have cA_2 := blk_cell KA.out 2
          have fA_2 := blk_frozen KA.out 2
          clear cP_0 fP_0 cP_1 fP_1 cP_2 fP_2
          replace KP : Hid (w12.heap[w9.heap.size]? = some (.cells #[.int .i64 p1, .int .i64 p2, .int .i64 p3] 23 (0, 0))) := blk_below (by repeat (first | (with_reducible first | exact KP.out | apply blk_drewN | apply blk_drew | apply blk_alloc) | exact KP.out)) hb12
          have cP_0 := blk_cell KP.out 0
          have fP_0 := blk_frozen KP.out 0
          have cP_1 := blk_cell KP.out 1
          have fP_1 := blk_frozen KP.out 1
          have cP_2 := blk_cell KP.out 2
          have fP_2 := blk_frozen KP.out 2
          replace HB : Hid (Below w.heap.size w w12) := below_step (by repeat (first | (with_reducible first | exact HB.out | exact Below.refl _ _ | apply below_alloc | apply bdr | apply below_drew1) | (refine below_set ?_ (by first | omega | (simp; done) | (simp; omega))) | exact HB.out | exact Below.refl _ _)) hb12
          clear hb12
          replace hlA := blk_lt KA.out
          replace hlP := blk_lt KP.out
          go_wp2_with fail
          clear cP_0 fP_0 cP_1 fP_1 cP_2 fP_2
          clear hlP KP
          refine (unit_Power.calls _ _ _ _ _ _ _ _ _ (powF_one a b c hok)).mono ?_
          rintro e w13 ⟨rfl, hb13⟩
          have KE : Hid (w13.heap[w12.heap.size]? = some (.cells #[.int .i64 0, .int .i64 0, .int .i64 0] 23 (0, 0))) := blk_below (blk_new w12 (.cells #[.int .i64 0, .int .i64 0, .int .i64 0] 23)) hb13
          clear cA_0 fA_0 cA_1 fA_1 cA_2 fA_2
          replace KA : Hid (w13.heap[w.heap.size]? = some (.cells #[.int .i64 a, .int .i64 b, .int .i64 c] 23 (0, 0))) := blk_below (by repeat (first | (with_reducible first | exact KA.out | apply blk_drewN | apply blk_drew | apply blk_alloc) | exact KA.out)) hb13
          have cA_0 := blk_cell KA.out 0
          have fA_0 := blk_frozen KA.out 0
          have cA_1 := blk_cell KA.out 1
          have fA_1 := blk_frozen KA.out 1
          have cA_2 := blk_cell KA.out 2
          have fA_2 := blk_frozen KA.out 2
          have cE_0 := blk_cell KE.out 0
          have fE_0 := blk_frozen KE.out 0
          have cE_1 := blk_cell KE.out 1
          have fE_1 := blk_frozen KE.out 1
          have cE_2 := blk_cell KE.out 2
          have fE_2 := blk_frozen KE.out 2
          replace HB : Hid (Below w.heap.size w w13) := below_step (by repeat (first | (with_reducible first | exact HB.out | exact Below.refl _ _ | apply below_alloc | apply bdr | apply below_drew1) | (refine below_set ?_ (by first | omega | (simp; done) | (simp; omega))) | exact HB.out | exact Below.refl _ _)) hb13
          clear hb13
          replace hlA := blk_lt KA.out
          have hlE := blk_lt KE.out
          go_wp2_with fail
          refine (unit_Text.calls _ _ _ _ _ _ ((HT.out.below HB.out).alloc _) (textF_ok a b c hok)).mono ?_
          rintro e w14 ⟨rfl, hb14⟩
          have KO : Hid (w14.heap[w13.heap.size]? = some (.cells #[.int .i64 a, .int .i64 b, .int .i64 c] 23 (0, 0))) := blk_below (blk_new w13 (.cells #[.int .i64 a, .int .i64 b, .int .i64 c] 23)) hb14
          clear cA_0 fA_0 cA_1 fA_1 cA_2 fA_2
          replace KA : Hid (w14.heap[w.heap.size]? = some (.cells #[.int .i64 a, .int .i64 b, .int .i64 c] 23 (0, 0))) := blk_below (by repeat (first | (with_reducible first | exact KA.out | apply blk_drewN | apply blk_drew | apply blk_alloc) | exact KA.out)) hb14
          have cA_0 := blk_cell KA.out 0
          have fA_0 := blk_frozen KA.out 0
          have cA_1 := blk_cell KA.out 1
          have fA_1 := blk_frozen KA.out 1
          have cA_2 := blk_cell KA.out 2
          have fA_2 := blk_frozen KA.out 2
          clear cE_0 fE_0 cE_1 fE_1 cE_2 fE_2
          replace KE : Hid (w14.heap[w12.heap.size]? = some (.cells #[.int .i64 0, .int .i64 0, .int .i64 0] 23 (0, 0))) := blk_below (by repeat (first | (with_reducible first | exact KE.out | apply blk_drewN | apply blk_drew | apply blk_alloc) | exact KE.out)) hb14
          have cE_0 := blk_cell KE.out 0
          have fE_0 := blk_frozen KE.out 0
          have cE_1 := blk_cell KE.out 1
          have fE_1 := blk_frozen KE.out 1
          have cE_2 := blk_cell KE.out 2
          have fE_2 := blk_frozen KE.out 2
          have cO_0 := blk_cell KO.out 0
          have fO_0 := blk_frozen KO.out 0
          have cO_1 := blk_cell KO.out 1
          have fO_1 := blk_frozen KO.out 1
          have cO_2 := blk_cell KO.out 2
          have fO_2 := blk_frozen KO.out 2
          replace HB : Hid (Below w.heap.size w w14) := below_step (by repeat (first | (with_reducible first | exact HB.out | exact Below.refl _ _ | apply below_alloc | apply bdr | apply below_drew1) | (refine below_set ?_ (by first | omega | (simp; done) | (simp; omega))) | exact HB.out | exact Below.refl _ _)) hb14
          clear hb14
          replace hlA := blk_lt KA.out
          replace hlE := blk_lt KE.out
          have hlO := blk_lt KO.out
          go_wp2_with fail
          go_ret
          exact ⟨rfl, HB.out⟩
        · skip
          refine (unit_Power.calls _ _ _ _ _ _ _ _ _ (powF_no a b c _ hok)).mono ?_
          rintro e w12 ⟨rfl, hb12⟩
          clear cA_0 fA_0 cA_1 fA_1 cA_2 fA_2
          replace KA : Hid (w12.heap[w.heap.size]? = some (.cells #[.int .i64 a, .int .i64 b, .int .i64 c] 23 (0, 0))) := blk_below (by repeat (first | (with_reducible first | exact KA.out | apply blk_drewN | apply blk_drew | apply blk_alloc) | exact KA.out)) hb12
          have cA_0 := blk_cell KA.out 0
          have fA_0 := blk_frozen KA.out 0
          have cA_1 := blk_cell KA.out 1
          have fA_1 := blk_frozen KA.out 1
          have cA_2 := blk_cell KA.out 2
          have fA_2 := blk_frozen KA.out 2
          clear cP_0 fP_0 cP_1 fP_1 cP_2 fP_2
          replace KP : Hid (w12.heap[w9.heap.size]? = some (.cells #[.int .i64 p1, .int .i64 p2, .int .i64 p3] 23 (0, 0))) := blk_below (by repeat (first | (with_reducible first | exact KP.out | apply blk_drewN | apply blk_drew | apply blk_alloc) | exact KP.out)) hb12
          have cP_0 := blk_cell KP.out 0
          have fP_0 := blk_frozen KP.out 0
          have cP_1 := blk_cell KP.out 1
          have fP_1 := blk_frozen KP.out 1
          have cP_2 := blk_cell KP.out 2
          have fP_2 := blk_frozen KP.out 2
          replace HB : Hid (Below w.heap.size w w12) := below_step (by repeat (first | (with_reducible first | exact HB.out | exact Below.refl _ _ | apply below_alloc | apply bdr | apply below_drew1) | (refine below_set ?_ (by first | omega | (simp; done) | (simp; omega))) | exact HB.out | exact Below.refl _ _)) hb12
          clear hb12
          replace hlA := blk_lt KA.out
          replace hlP := blk_lt KP.out
          go_wp2_with fail
          clear cP_0 fP_0 cP_1 fP_1 cP_2 fP_2
          clear hlP KP
          refine (unit_Power.calls _ _ _ _ _ _ _ _ _ (powF_no a b c _ hok)).mono ?_
          rintro e w13 ⟨rfl, hb13⟩
          have KE : Hid (w13.heap[w12.heap.size]? = some (.cells #[.int .i64 0, .int .i64 0, .int .i64 0] 23 (0, 0))) := blk_below (blk_new w12 (.cells #[.int .i64 0, .int .i64 0, .int .i64 0] 23)) hb13
          clear cA_0 fA_0 cA_1 fA_1 cA_2 fA_2
          replace KA : Hid (w13.heap[w.heap.size]? = some (.cells #[.int .i64 a, .int .i64 b, .int .i64 c] 23 (0, 0))) := blk_below (by repeat (first | (with_reducible first | exact KA.out | apply blk_drewN | apply blk_drew | apply blk_alloc) | exact KA.out)) hb13
          have cA_0 := blk_cell KA.out 0
          have fA_0 := blk_frozen KA.out 0
          have cA_1 := blk_cell KA.out 1
          have fA_1 := blk_frozen KA.out 1
          have cA_2 := blk_cell KA.out 2
          have fA_2 := blk_frozen KA.out 2
          have cE_0 := blk_cell KE.out 0
          have fE_0 := blk_frozen KE.out 0
          have cE_1 := blk_cell KE.out 1
          have fE_1 := blk_frozen KE.out 1
          have cE_2 := blk_cell KE.out 2
          have fE_2 := blk_frozen KE.out 2
          replace HB : Hid (Below w.heap.size w w13) := below_step (by repeat (first | (with_reducible first | exact HB.out | exact Below.refl _ _ | apply below_alloc | apply bdr | apply below_drew1) | (refine below_set ?_ (by first | omega | (simp; done) | (simp; omega))) | exact HB.out | exact Below.refl _ _)) hb13
          clear hb13
          replace hlA := blk_lt KA.out
          have hlE := blk_lt KE.out
          go_wp2_with fail
          refine (unit_Text.calls _ _ _ _ _ _ ((HT.out.below HB.out).alloc _) (textF_no a b c hok)).mono ?_
          rintro e w14 ⟨rfl, hb14⟩
          have KO : Hid (w14.heap[w13.heap.size]? = some (.cells #[.int .i64 0, .int .i64 0, .int .i64 0] 23 (0, 0))) := blk_below (blk_new w13 (.cells #[.int .i64 0, .int .i64 0, .int .i64 0] 23)) hb14
          clear cA_0 fA_0 cA_1 fA_1 cA_2 fA_2
          replace KA : Hid (w14.heap[w.heap.size]? = some (.cells #[.int .i64 a, .int .i64 b, .int .i64 c] 23 (0, 0))) := blk_below (by repeat (first | (with_reducible first | exact KA.out | apply blk_drewN | apply blk_drew | apply blk_alloc) | exact KA.out)) hb14
          have cA_0 := blk_cell KA.out 0
          have fA_0 := blk_frozen KA.out 0
          have cA_1 := blk_cell KA.out 1
          have fA_1 := blk_frozen KA.out 1
          have cA_2 := blk_cell KA.out 2
          have fA_2 := blk_frozen KA.out 2
          clear cE_0 fE_0 cE_1 fE_1 cE_2 fE_2
          replace KE : Hid (w14.heap[w12.heap.size]? = some (.cells #[.int .i64 0, .int .i64 0, .int .i64 0] 23 (0, 0))) := blk_below (by repeat (first | (with_reducible first | exact KE.out | apply blk_drewN | apply blk_drew | apply blk_alloc) | exact KE.out)) hb14
          have cE_0 := blk_cell KE.out 0
          have fE_0 := blk_frozen KE.out 0
          have cE_1 := blk_cell KE.out 1
          have fE_1 := blk_frozen KE.out 1
          have cE_2 := blk_cell KE.out 2
          have fE_2 := blk_frozen KE.out 2
          have cO_0 := blk_cell KO.out 0
          have fO_0 := blk_frozen KO.out 0
          have cO_1 := blk_cell KO.out 1
          have fO_1 := blk_frozen KO.out 1
          have cO_2 := blk_cell KO.out 2
          have fO_2 := blk_frozen KO.out 2
          replace HB : Hid (Below w.heap.size w w14) := below_step (by repeat (first | (with_reducible first | exact HB.out | exact Below.refl _ _ | apply below_alloc | apply bdr | apply below_drew1) | (refine below_set ?_ (by first | omega | (simp; done) | (simp; omega))) | exact HB.out | exact Below.refl _ _)) hb14
          clear hb14
          replace hlA := blk_lt KA.out
          replace hlE := blk_lt KE.out
          have hlO := blk_lt KO.out
          go_wp2_with fail
          go_ret
          exact ⟨rfl, HB.out⟩

theorem powers_walk (a b c x y z rn rm : Int) (hn : 0 ≤ rn ∧ rn ≤ 255) (hm : 0 ≤ rm ∧ rm ≤ 255) (w : World) (hT : Tabs w) :
    Calls Tryd.prog 5 #[.agg #[.int .i64 a, .int .i64 b, .int .i64 c], .agg #[.int .i64 x, .int .i64 y, .int .i64 z], .int .u8 rn, .int .u8 rm] w fun e w' => e = .returned (.bool true) ∧ Below w.heap.size w w' := by
  obtain ⟨x1, x2, x3, e, px⟩ : ∃ p q r e, unit_Power.f a b c (rn % 41 - 20) = some (p, q, r, e) := ⟨_, _, _, _, rfl⟩
  obtain ⟨y1, y2, y3, f, py⟩ : ∃ p q r e, unit_Power.f a b c (rm % 41 - 20) = some (p, q, r, e) := ⟨_, _, _, _, rfl⟩
  obtain ⟨z1, z2, z3, g, pz⟩ : ∃ p q r e, unit_Power.f a b c (rn % 41 - 20 + (rm % 41 - 20)) = some (p, q, r, e) := ⟨_, _, _, _, rfl⟩
  obtain ⟨v1, v2, v3, h, pv⟩ : ∃ p q r e, unit_Mul.f x1 x2 x3 y1 y2 y3 = some (p, q, r, e) := ⟨_, _, _, _, rfl⟩
  obtain ⟨t1, t2, t3, i, pt⟩ : ∃ p q r e, unit_Power.f x1 x2 x3 (rm % 41 - 20) = some (p, q, r, e) := ⟨_, _, _, _, rfl⟩
  obtain ⟨u1, u2, u3, j, pu⟩ : ∃ p q r e, unit_Power.f a b c ((rn % 41 - 20) * (rm % 41 - 20)) = some (p, q, r, e) := ⟨_, _, _, _, rfl⟩
  obtain ⟨d1, d2, d3, k, pd⟩ : ∃ p q r e, unit_Mul.f a b c x y z = some (p, q, r, e) := ⟨_, _, _, _, rfl⟩
  obtain ⟨p1, p2, p3, l, pp⟩ : ∃ p q r e, unit_Power.f d1 d2 d3 (rn % 41 - 20) = some (p, q, r, e) := ⟨_, _, _, _, rfl⟩
  obtain ⟨q1, q2, q3, o, pq⟩ : ∃ p q r e, unit_Power.f x y z (rn % 41 - 20) = some (p, q, r, e) := ⟨_, _, _, _, rfl⟩
  obtain ⟨r1, r2, r3, s, pr⟩ : ∃ p q r e, unit_Mul.f x1 x2 x3 q1 q2 q3 = some (p, q, r, e) := ⟨_, _, _, _, rfl⟩
  refine powers_x a b c x y z rn rm hn hm w hT _ _ _ _ _ _ _ _ _ _ _ _ _ _ _ _ _ _ _ _ _ _ _ _ _ _ _ _ _ _ _ _ _ _ _ _ _ _ _ _ px py pz pv pt pu pd pp pq pr ?_ ?_ ?_
  · by_cases he : e = 0
    · by_cases hf : f = 0
      · by_cases hg : g = 0
        · by_cases hh : h = 0
          · subst he hf hg hh
            obtain ⟨_, rfl, rfl, rfl⟩ := powF_is px
            obtain ⟨_, rfl, rfl, rfl⟩ := powF_is py
            obtain ⟨_, rfl, rfl, rfl⟩ := powF_is pz
            obtain ⟨_, _, rfl, rfl, rfl⟩ := mulF_is pv
            simp [Int.mul_add]
          · simp [he, hf, hg, hh]
        · simp [he, hf, hg]
      · simp [he, hf]
    · simp [he]
  · by_cases he : e = 0
    · by_cases hf : i = 0
      · by_cases hg : j = 0
        · subst he hf hg
          obtain ⟨_, rfl, rfl, rfl⟩ := powF_is px
          obtain ⟨_, rfl, rfl, rfl⟩ := powF_is pt
          obtain ⟨_, rfl, rfl, rfl⟩ := powF_is pu
          simp [Int.mul_assoc]
        · simp [he, hf, hg]
      · simp [he, hf]
    · simp [he]
  · by_cases hk : k = 0
    · by_cases hl : l = 0
      · by_cases he : e = 0
        · by_cases ho : o = 0
          · by_cases hs : s = 0
            · subst hk hl he ho hs
              obtain ⟨_, _, rfl, rfl, rfl⟩ := mulF_is pd
              obtain ⟨_, rfl, rfl, rfl⟩ := powF_is pp
              obtain ⟨_, rfl, rfl, rfl⟩ := powF_is px
              obtain ⟨_, rfl, rfl, rfl⟩ := powF_is pq
              obtain ⟨_, _, rfl, rfl, rfl⟩ := mulF_is pr
              simp [Int.add_mul]
            · simp [hk, hl, he, ho, hs]
          · simp [hk, hl, he, ho]
        · simp [hk, hl, he]
      · simp [hk, hl]
    · simp [hk]

end Go.Proofs.YtifamjapgpcjjaaDoor.Ext
