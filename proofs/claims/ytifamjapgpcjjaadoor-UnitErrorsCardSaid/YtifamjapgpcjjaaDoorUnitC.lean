/- unit.Power, walked. -/
import Derived.Test.YtifamjapgpcjjaaDoorUnitB
import Derived.Test.YtifamjapgpcjjaaDoorWEqStruct
namespace Go.Proofs.YtifamjapgpcjjaaDoor.Ext
open Go Go.Proofs Go.RowKit Go.Proofs.YtifamjapgpcjjaaDoorW.PrintWords
set_option linter.unusedVariables false

theorem alloc2_blk (w : World) (o1 o2 : Obj) : ((w.alloc o1).alloc o2).heap[w.heap.size]? = some o1 ∧ ((w.alloc o1).alloc o2).heap[w.heap.size + 1]? = some o2 := by
  refine ⟨blk_alloc (blk_new _ _) _, ?_⟩
  have h := blk_new (w.alloc o1) o2
  rw [World.size_alloc] at h
  exact h
theorem resP {tmps : Array Value} {W : World} {R : Nat} {p q r v : Value} (h4 : tmps[4]? = some (.pointer (some ⟨R, 0, none⟩))) (h5 : tmps[5]? = some v) (h : W.heap[R]? = some (.cells #[p, q, r] 23 (0, 0))) :
    (results Tryd.f11 tmps).run Tryd.prog W = .ok (.tuple #[.agg #[p, q, r], v]) W := by
  have c0 := blk_cell h 0
  have c1 := blk_cell h 1
  have c2 := blk_cell h 2
  simp [results, Tryd.f11, go_sem, h4, h5, c0, c1, c2]
theorem eqU (d : Nat) (w : World) (x0 y0 : Int) (x1 y1 : Int) (x2 y2 : Int) :
    (Op.equalIn (d + 2) 23 (.agg #[.int .i64 x0, .int .i64 x1, .int .i64 x2]) (.agg #[.int .i64 y0, .int .i64 y1, .int .i64 y2])).run Tryd.prog w = .ok (x0 == y0 && (x1 == y1 && (x2 == y2))) w := by
  refine eqA_of Tryd.underlying23 (by kernel_rfl) ?_
  refine eqf_cons (by rfl) (by go_simp; rfl) (by go_simp; rfl) (by go_simp) ?_
  refine eqf_cons (by rfl) (by go_simp; rfl) (by go_simp; rfl) (by go_simp) ?_
  exact eqf_last (by rfl) (by go_simp; rfl) (by go_simp; rfl) (by go_simp)
/-- the exponent that is raised to -/
def cl (n : Int) : Int := max (-9) (min 9 n)
theorem cl_mul (a n : Int) (h : -8 ≤ a ∧ a ≤ 8) : -72 ≤ a * cl n ∧ a * cl n ≤ 72 := by
  have h1 : -9 ≤ cl n ∧ cl n ≤ 9 := by unfold cl; omega
  generalize cl n = m at h1
  obtain ⟨h2, h3⟩ := h1
  have : a = -8 ∨ a = -7 ∨ a = -6 ∨ a = -5 ∨ a = -4 ∨ a = -3 ∨ a = -2 ∨ a = -1 ∨ a = 0 ∨ a = 1 ∨ a = 2 ∨ a = 3 ∨ a = 4 ∨ a = 5 ∨ a = 6 ∨ a = 7 ∨ a = 8 := by omega
  rcases this with rfl | rfl | rfl | rfl | rfl | rfl | rfl | rfl | rfl | rfl | rfl | rfl | rfl | rfl | rfl | rfl | rfl <;> omega

set_option maxRecDepth 100000 in
set_option maxHeartbeats 2000000 in
theorem power_no (a b c n : Int) (w : World) (h : ¬ okU a b c) :
    Calls Tryd.prog 11 #[.agg #[.int .i64 a, .int .i64 b, .int .i64 c], .int .i64 n] w fun e w' => e = .returned (.tuple #[.agg #[.int .i64 0, .int .i64 0, .int .i64 0], .int .i64 1]) ∧ Below w.heap.size w w' := by
  have H := Lib.hid h
  clear h
  have h2 := alloc2_blk w (.cells #[.int .i64 a, .int .i64 b, .int .i64 c] 23) (.cells #[.int .i64 0, .int .i64 0, .int .i64 0] 23)
  go_enter Tryd.func11, Tryd.ntmps11
  go_wp2_with fail
  refine (valid_no a b c _ H.out).mono ?_
  rintro e w1 ⟨rfl, hb1⟩
  have KR : Hid (w1.heap[w.heap.size + 1]? = some (.cells #[.int .i64 0, .int .i64 0, .int .i64 0] 23 (0, 0))) := blk_below h2.2 hb1
  have cR_0 := blk_cell KR.out 0
  have fR_0 := blk_frozen KR.out 0
  have cR_1 := blk_cell KR.out 1
  have fR_1 := blk_frozen KR.out 1
  have cR_2 := blk_cell KR.out 2
  have fR_2 := blk_frozen KR.out 2
  have HB : Hid (Below w.heap.size w w1) := below_step (by repeat (first | (with_reducible first | exact HB.out | exact Below.refl _ _ | apply below_alloc | apply bdr | apply below_drew1) | (refine below_set ?_ (by first | omega | (simp; done) | (simp; omega))) | exact HB.out | exact Below.refl _ _)) hb1
  clear hb1
  go_wp2_with fail
  refine bodyPost_ret (v := .tuple #[.agg #[.int .i64 0, .int .i64 0, .int .i64 0], .int .i64 1]) (resP rfl rfl (put3 KR.out _ _ _)) rfl ⟨rfl, (by repeat (first | (with_reducible first | exact HB.out | exact Below.refl _ _ | apply below_alloc | apply bdr | apply below_drew1) | (refine below_set ?_ (by first | omega | (simp; done) | (simp; omega))) | exact HB.out | exact Below.refl _ _))⟩

set_option maxRecDepth 100000 in
set_option maxHeartbeats 2000000 in
theorem power_zero (n : Int) (w : World) :
    Calls Tryd.prog 11 #[.agg #[.int .i64 0, .int .i64 0, .int .i64 0], .int .i64 n] w fun e w' => e = .returned (.tuple #[.agg #[.int .i64 0, .int .i64 0, .int .i64 0], .int .i64 0]) ∧ Below w.heap.size w w' := by
  have h2 := alloc2_blk w (.cells #[.int .i64 0, .int .i64 0, .int .i64 0] 23) (.cells #[.int .i64 0, .int .i64 0, .int .i64 0] 23)
  go_enter Tryd.func11, Tryd.ntmps11
  go_wp2_with fail
  refine (valid_yes 0 0 0 _ (by decide)).mono ?_
  rintro e w1 ⟨rfl, hb1⟩
  have KA : Hid (w1.heap[w.heap.size]? = some (.cells #[.int .i64 0, .int .i64 0, .int .i64 0] 23 (0, 0))) := blk_below h2.1 hb1
  have KR : Hid (w1.heap[w.heap.size + 1]? = some (.cells #[.int .i64 0, .int .i64 0, .int .i64 0] 23 (0, 0))) := blk_below h2.2 hb1
  have cA_0 := blk_cell KA.out 0
  have fA_0 := blk_frozen KA.out 0
  have cA_1 := blk_cell KA.out 1
  have fA_1 := blk_frozen KA.out 1
  have cA_2 := blk_cell KA.out 2
  have fA_2 := blk_frozen KA.out 2
  have cR_0 := blk_cell KR.out 0
  have fR_0 := blk_frozen KR.out 0
  have cR_1 := blk_cell KR.out 1
  have fR_1 := blk_frozen KR.out 1
  have cR_2 := blk_cell KR.out 2
  have fR_2 := blk_frozen KR.out 2
  have HB : Hid (Below w.heap.size w w1) := below_step (by repeat (first | (with_reducible first | exact HB.out | exact Below.refl _ _ | apply below_alloc | apply bdr | apply below_drew1) | (refine below_set ?_ (by first | omega | (simp; done) | (simp; omega))) | exact HB.out | exact Below.refl _ _)) hb1
  clear hb1
  go_wp2_with fail
  refine bodyPost_ret (v := .tuple #[.agg #[.int .i64 0, .int .i64 0, .int .i64 0], .int .i64 0]) (resP rfl rfl (put3 KR.out _ _ _)) rfl ⟨rfl, (by repeat (first | (with_reducible first | exact HB.out | exact Below.refl _ _ | apply below_alloc | apply bdr | apply below_drew1) | (refine below_set ?_ (by first | omega | (simp; done) | (simp; omega))) | exact HB.out | exact Below.refl _ _))⟩

set_option maxRecDepth 100000 in
set_option maxHeartbeats 2000000 in
theorem power_yes (a b c n : Int) (w : World) (h : okU a b c) (hz : ¬ (a = 0 ∧ b = 0 ∧ c = 0)) (hs : okU (a * max (-9) (min 9 n)) (b * max (-9) (min 9 n)) (c * max (-9) (min 9 n))) :
    Calls Tryd.prog 11 #[.agg #[.int .i64 a, .int .i64 b, .int .i64 c], .int .i64 n] w fun e w' => e = .returned (.tuple #[.agg #[.int .i64 (a * max (-9) (min 9 n)), .int .i64 (b * max (-9) (min 9 n)), .int .i64 (c * max (-9) (min 9 n))], .int .i64 0]) ∧ Below w.heap.size w w' := by
  have H := Lib.hid h
  have HS := Lib.hid hs
  obtain ⟨a12, b12, c12⟩ := h
  obtain ⟨a1, a2⟩ := cl_mul a n a12
  obtain ⟨b1, b2⟩ := cl_mul b n b12
  obtain ⟨c1, c2⟩ := cl_mul c n c12
  simp only [cl] at a1 a2 b1 b2 c1 c2
  clear hs a12 b12 c12
  have h2 := alloc2_blk w (.cells #[.int .i64 a, .int .i64 b, .int .i64 c] 23) (.cells #[.int .i64 0, .int .i64 0, .int .i64 0] 23)
  have hne : (a == 0 && (b == 0 && c == 0)) = false := by simp; omega
  have heq : ∀ (d : Nat) (w : World), (Op.equalIn (d + 2) 23 (.agg #[.int .i64 a, .int .i64 b, .int .i64 c]) (.agg #[.int .i64 0, .int .i64 0, .int .i64 0])).run Tryd.prog w = .ok false w := fun d w => by rw [eqU, hne]
  clear hne hz
  go_enter Tryd.func11, Tryd.ntmps11
  go_wp2_with fail
  refine (valid_yes a b c _ H.out).mono ?_
  rintro e w1 ⟨rfl, hb1⟩
  have KA : Hid (w1.heap[w.heap.size]? = some (.cells #[.int .i64 a, .int .i64 b, .int .i64 c] 23 (0, 0))) := blk_below h2.1 hb1
  have KR : Hid (w1.heap[w.heap.size + 1]? = some (.cells #[.int .i64 0, .int .i64 0, .int .i64 0] 23 (0, 0))) := blk_below h2.2 hb1
  have cA_0 := blk_cell KA.out 0
  have fA_0 := blk_frozen KA.out 0
  have cA_1 := blk_cell KA.out 1
  have fA_1 := blk_frozen KA.out 1
  have cA_2 := blk_cell KA.out 2
  have fA_2 := blk_frozen KA.out 2
  have cR_0 := blk_cell KR.out 0
  have fR_0 := blk_frozen KR.out 0
  have cR_1 := blk_cell KR.out 1
  have fR_1 := blk_frozen KR.out 1
  have cR_2 := blk_cell KR.out 2
  have fR_2 := blk_frozen KR.out 2
  have HB : Hid (Below w.heap.size w w1) := below_step (by repeat (first | (with_reducible first | exact HB.out | exact Below.refl _ _ | apply below_alloc | apply bdr | apply below_drew1) | (refine below_set ?_ (by first | omega | (simp; done) | (simp; omega))) | exact HB.out | exact Below.refl _ _)) hb1
  clear hb1
  go_wp2_with fail
  refine (exponents_any a b c _).mono ?_
  rintro e w2 ⟨rfl, hb2⟩
  clear cR_0 fR_0 cR_1 fR_1 cR_2 fR_2
  replace KR : Hid (w2.heap[w.heap.size + 1]? = some (.cells #[.int .i64 0, .int .i64 0, .int .i64 0] 23 (0, 0))) := blk_below (by repeat (first | (with_reducible first | exact KR.out | apply blk_drewN | apply blk_drew | apply blk_alloc) | exact KR.out)) hb2
  have cR_0 := blk_cell KR.out 0
  have fR_0 := blk_frozen KR.out 0
  have cR_1 := blk_cell KR.out 1
  have fR_1 := blk_frozen KR.out 1
  have cR_2 := blk_cell KR.out 2
  have fR_2 := blk_frozen KR.out 2
  replace HB : Hid (Below w.heap.size w w2) := below_step (by repeat (first | (with_reducible first | exact HB.out | exact Below.refl _ _ | apply below_alloc | apply bdr | apply below_drew1) | (refine below_set ?_ (by first | omega | (simp; done) | (simp; omega))) | exact HB.out | exact Below.refl _ _)) hb2
  clear hb2
  clear cA_0 cA_1 cA_2 fA_0 fA_1 fA_2 KA
  have hlt := blk_lt KR.out
  go_wp2_with fail
  refine wp_loop_rounds 4 ?_
  rw [rounds_succ]
  go_wp2_with fail
  rw [rounds_succ]
  go_wp2_with fail
  rw [rounds_succ]
  go_wp2_with fail
  rw [rounds_succ]
  go_wp2_with fail
  refine (of_yes (a * max (-9) (min 9 n)) (b * max (-9) (min 9 n)) (c * max (-9) (min 9 n)) _ HS.out).mono ?_
  rintro e w3 ⟨rfl, hb3⟩
  replace HB : Hid (Below w.heap.size w w3) := below_step (by repeat (first | (with_reducible first | exact HB.out | exact Below.refl _ _ | apply below_alloc | apply bdr | apply below_drew1) | (refine below_set ?_ (by first | omega | (simp; done) | (simp; omega))) | exact HB.out | exact Below.refl _ _)) hb3
  have KR5 := Lib.hid (blk_below (blk_alloc KR.out _) hb3)
  clear hb3
  have hlt5 := blk_lt KR5.out
  have gR_0 := blk_cell KR5.out 0
  have hR_0 := blk_frozen KR5.out 0
  have gR_1 := blk_cell KR5.out 1
  have hR_1 := blk_frozen KR5.out 1
  have gR_2 := blk_cell KR5.out 2
  have hR_2 := blk_frozen KR5.out 2
  go_wp2_with fail
  refine bodyPost_ret (v := .tuple #[.agg #[.int .i64 (a * max (-9) (min 9 n)), .int .i64 (b * max (-9) (min 9 n)), .int .i64 (c * max (-9) (min 9 n))], .int .i64 0]) (resP rfl rfl (blk_alloc (put3 KR5.out _ _ _) _)) rfl ⟨rfl, (by repeat (first | (with_reducible first | exact HB.out | exact Below.refl _ _ | apply below_alloc | apply bdr | apply below_drew1) | (refine below_set ?_ (by first | omega | (simp; done) | (simp; omega))) | exact HB.out | exact Below.refl _ _))⟩

set_option maxRecDepth 100000 in
set_option maxHeartbeats 2000000 in
theorem power_range (a b c n : Int) (w : World) (h : okU a b c) (hz : ¬ (a = 0 ∧ b = 0 ∧ c = 0)) (hs : ¬ okU (a * max (-9) (min 9 n)) (b * max (-9) (min 9 n)) (c * max (-9) (min 9 n))) :
    Calls Tryd.prog 11 #[.agg #[.int .i64 a, .int .i64 b, .int .i64 c], .int .i64 n] w fun e w' => e = .returned (.tuple #[.agg #[.int .i64 0, .int .i64 0, .int .i64 0], .int .i64 9]) ∧ Below w.heap.size w w' := by
  have H := Lib.hid h
  have HS := Lib.hid hs
  obtain ⟨a12, b12, c12⟩ := h
  obtain ⟨a1, a2⟩ := cl_mul a n a12
  obtain ⟨b1, b2⟩ := cl_mul b n b12
  obtain ⟨c1, c2⟩ := cl_mul c n c12
  simp only [cl] at a1 a2 b1 b2 c1 c2
  clear hs a12 b12 c12
  have h2 := alloc2_blk w (.cells #[.int .i64 a, .int .i64 b, .int .i64 c] 23) (.cells #[.int .i64 0, .int .i64 0, .int .i64 0] 23)
  have hne : (a == 0 && (b == 0 && c == 0)) = false := by simp; omega
  have heq : ∀ (d : Nat) (w : World), (Op.equalIn (d + 2) 23 (.agg #[.int .i64 a, .int .i64 b, .int .i64 c]) (.agg #[.int .i64 0, .int .i64 0, .int .i64 0])).run Tryd.prog w = .ok false w := fun d w => by rw [eqU, hne]
  clear hne hz
  go_enter Tryd.func11, Tryd.ntmps11
  go_wp2_with fail
  refine (valid_yes a b c _ H.out).mono ?_
  rintro e w1 ⟨rfl, hb1⟩
  have KA : Hid (w1.heap[w.heap.size]? = some (.cells #[.int .i64 a, .int .i64 b, .int .i64 c] 23 (0, 0))) := blk_below h2.1 hb1
  have KR : Hid (w1.heap[w.heap.size + 1]? = some (.cells #[.int .i64 0, .int .i64 0, .int .i64 0] 23 (0, 0))) := blk_below h2.2 hb1
  have cA_0 := blk_cell KA.out 0
  have fA_0 := blk_frozen KA.out 0
  have cA_1 := blk_cell KA.out 1
  have fA_1 := blk_frozen KA.out 1
  have cA_2 := blk_cell KA.out 2
  have fA_2 := blk_frozen KA.out 2
  have cR_0 := blk_cell KR.out 0
  have fR_0 := blk_frozen KR.out 0
  have cR_1 := blk_cell KR.out 1
  have fR_1 := blk_frozen KR.out 1
  have cR_2 := blk_cell KR.out 2
  have fR_2 := blk_frozen KR.out 2
  have HB : Hid (Below w.heap.size w w1) := below_step (by repeat (first | (with_reducible first | exact HB.out | exact Below.refl _ _ | apply below_alloc | apply bdr | apply below_drew1) | (refine below_set ?_ (by first | omega | (simp; done) | (simp; omega))) | exact HB.out | exact Below.refl _ _)) hb1
  clear hb1
  go_wp2_with fail
  refine (exponents_any a b c _).mono ?_
  rintro e w2 ⟨rfl, hb2⟩
  clear cR_0 fR_0 cR_1 fR_1 cR_2 fR_2
  replace KR : Hid (w2.heap[w.heap.size + 1]? = some (.cells #[.int .i64 0, .int .i64 0, .int .i64 0] 23 (0, 0))) := blk_below (by repeat (first | (with_reducible first | exact KR.out | apply blk_drewN | apply blk_drew | apply blk_alloc) | exact KR.out)) hb2
  have cR_0 := blk_cell KR.out 0
  have fR_0 := blk_frozen KR.out 0
  have cR_1 := blk_cell KR.out 1
  have fR_1 := blk_frozen KR.out 1
  have cR_2 := blk_cell KR.out 2
  have fR_2 := blk_frozen KR.out 2
  replace HB : Hid (Below w.heap.size w w2) := below_step (by repeat (first | (with_reducible first | exact HB.out | exact Below.refl _ _ | apply below_alloc | apply bdr | apply below_drew1) | (refine below_set ?_ (by first | omega | (simp; done) | (simp; omega))) | exact HB.out | exact Below.refl _ _)) hb2
  clear hb2
  clear cA_0 cA_1 cA_2 fA_0 fA_1 fA_2 KA
  have hlt := blk_lt KR.out
  go_wp2_with fail
  refine wp_loop_rounds 4 ?_
  rw [rounds_succ]
  go_wp2_with fail
  rw [rounds_succ]
  go_wp2_with fail
  rw [rounds_succ]
  go_wp2_with fail
  rw [rounds_succ]
  go_wp2_with fail
  refine (of_no (a * max (-9) (min 9 n)) (b * max (-9) (min 9 n)) (c * max (-9) (min 9 n)) _ HS.out).mono ?_
  rintro e w3 ⟨rfl, hb3⟩
  replace HB : Hid (Below w.heap.size w w3) := below_step (by repeat (first | (with_reducible first | exact HB.out | exact Below.refl _ _ | apply below_alloc | apply bdr | apply below_drew1) | (refine below_set ?_ (by first | omega | (simp; done) | (simp; omega))) | exact HB.out | exact Below.refl _ _)) hb3
  have KR5 := Lib.hid (blk_below (blk_alloc KR.out _) hb3)
  clear hb3
  have hlt5 := blk_lt KR5.out
  have gR_0 := blk_cell KR5.out 0
  have hR_0 := blk_frozen KR5.out 0
  have gR_1 := blk_cell KR5.out 1
  have hR_1 := blk_frozen KR5.out 1
  have gR_2 := blk_cell KR5.out 2
  have hR_2 := blk_frozen KR5.out 2
  go_wp2_with fail
  refine bodyPost_ret (v := .tuple #[.agg #[.int .i64 0, .int .i64 0, .int .i64 0], .int .i64 9]) (resP rfl rfl (blk_alloc (put3 KR5.out _ _ _) _)) rfl ⟨rfl, (by repeat (first | (with_reducible first | exact HB.out | exact Below.refl _ _ | apply below_alloc | apply bdr | apply below_drew1) | (refine below_set ?_ (by first | omega | (simp; done) | (simp; omega))) | exact HB.out | exact Below.refl _ _))⟩

end Go.Proofs.YtifamjapgpcjjaaDoor.Ext
