/- The chapter's examples (head), at their values. -/
import Derived.Test.YtifamjapgpcjjaaDoorH3
namespace Go.Proofs.YtifamjapgpcjjaaDoor.Ext
open Go Go.Proofs Go.RowKit Go.Proofs.YtifamjapgpcjjaaDoorW.PrintWords

theorem v1 : unit_Mul.f 8 0 0 1 0 0 = some (0, 0, 0, 9) := by decide +kernel
theorem v2 : unit_Power.f 2 0 (-1) (-4) = some (-8, 0, 4, 0) := by decide +kernel
theorem v3 : unit_Power.f 2 0 (-1) 5 = some (0, 0, 0, 9) := by decide +kernel
theorem v4 : unit_Parse.f ⟨#[115, 101, 99, 111, 110, 100, 115, 32, 99, 111, 117, 110, 116, 115]⟩ = some (0, 0, 0, 5) := by decide +kernel
theorem v5 : unit_Parse.f ⟨#[99, 111, 117, 110, 116, 115, 94, 49]⟩ = some (0, 0, 0, 5) := by decide +kernel
theorem v6 : unit_Parse.f ⟨#[]⟩ = some (0, 0, 0, 5) := by decide +kernel
theorem v7 : unit_Parse.f ⟨#[99, 111, 117, 110, 116, 115, 94, 50, 32, 115, 101, 99, 111, 110, 100, 115, 94, 45, 49]⟩ = some (2, 0, -1, 0) := by decide +kernel
theorem t1 : unit_Text.f 2 0 (-1) = some (⟨#[99, 111, 117, 110, 116, 115, 94, 50, 32, 115, 101, 99, 111, 110, 100, 115, 94, 45, 49]⟩, 0) := by decide +kernel
theorem t2 : unit_Text.f 0 0 0 = some (⟨#[49]⟩, 0) := by decide +kernel
theorem t3 : unit_Text.f 0 1 0 = some (⟨#[101, 108, 101, 99, 116, 114, 111, 110, 115]⟩, 0) := by decide +kernel

open Go.Proofs.YtifamjapgpcjjaaDoor.H
theorem x1 : observatorylaw32_text.f 2 0 (-1) ⟨#[99, 111, 117, 110, 116, 115, 94, 50, 32, 115, 101, 99, 111, 110, 100, 115, 94, 45, 49]⟩ = some true := by decide +kernel
theorem x2 : observatorylaw32_text.f 0 0 0 ⟨#[49]⟩ = some true := by decide +kernel
theorem x3 : observatorylaw32_text.f 0 1 0 ⟨#[101, 108, 101, 99, 116, 114, 111, 110, 115]⟩ = some true := by decide +kernel
def head.f : Option Bool := some true

set_option maxRecDepth 100000 in
set_option maxHeartbeats 4000000 in
theorem head.calls (r : Bool) (w : World) (hT : Tabs w) (h : head.f = some r) :
    Calls Tryd.prog 8 #[] w fun e w' => e = .returned (.bool r) ∧ Below w.heap.size w w' := by
  obtain rfl := Option.some.inj h
  clear h
  have HT := Lib.hid hT
  clear hT
  go_enter Tryd.func8, Tryd.ntmps8
  go_wp2_with fail
  refine (unit_Mul.calls _ _ _ _ _ _ _ _ _ _ _ v1).mono ?_
  rintro e w1 ⟨rfl, hb1⟩
  have KA : Hid (w1.heap[w.heap.size]? = some (.cells #[.int .i64 2, .int .i64 0, .int .i64 (-1)] 23 (0, 0))) := blk_below (blk_new w _) hb1
  have cA_0 := blk_cell KA.out 0
  have fA_0 := blk_frozen KA.out 0
  have cA_1 := blk_cell KA.out 1
  have fA_1 := blk_frozen KA.out 1
  have cA_2 := blk_cell KA.out 2
  have fA_2 := blk_frozen KA.out 2
  have HB : Hid (Below w.heap.size w w1) := below_step (by repeat (first | (with_reducible first | exact HB.out | exact Below.refl _ _ | apply below_alloc | apply bdr | apply below_drew1) | (refine below_set ?_ (by first | omega | (simp; done) | (simp; omega))) | exact HB.out | exact Below.refl _ _)) hb1
  clear hb1
  have hltA := blk_lt KA.out
  go_wp2_with fail
  refine (unit_Power.calls _ _ _ _ _ _ _ _ _ v2).mono ?_
  rintro e w2 ⟨rfl, hb2⟩
  clear cA_0 fA_0 cA_1 fA_1 cA_2 fA_2
  replace KA : Hid (w2.heap[w.heap.size]? = some (.cells #[.int .i64 2, .int .i64 0, .int .i64 (-1)] 23 (0, 0))) := blk_below (by repeat (first | (with_reducible first | exact KA.out | apply blk_drewN | apply blk_drew | apply blk_alloc) | exact KA.out)) hb2
  have cA_0 := blk_cell KA.out 0
  have fA_0 := blk_frozen KA.out 0
  have cA_1 := blk_cell KA.out 1
  have fA_1 := blk_frozen KA.out 1
  have cA_2 := blk_cell KA.out 2
  have fA_2 := blk_frozen KA.out 2
  replace HB : Hid (Below w.heap.size w w2) := below_step (by repeat (first | (with_reducible first | exact HB.out | exact Below.refl _ _ | apply below_alloc | apply bdr | apply below_drew1) | (refine below_set ?_ (by first | omega | (simp; done) | (simp; omega))) | exact HB.out | exact Below.refl _ _)) hb2
  clear hb2
  replace hltA := blk_lt KA.out
  go_wp2_with fail
  refine (unit_Power.calls _ _ _ _ _ _ _ _ _ v3).mono ?_
  rintro e w3 ⟨rfl, hb3⟩
  have KB : Hid (w3.heap[w2.heap.size]? = some (.cells #[.int .i64 (-8), .int .i64 0, .int .i64 4] 23 (0, 0))) := blk_below (blk_new w2 _) hb3
  clear cA_0 fA_0 cA_1 fA_1 cA_2 fA_2
  replace KA : Hid (w3.heap[w.heap.size]? = some (.cells #[.int .i64 2, .int .i64 0, .int .i64 (-1)] 23 (0, 0))) := blk_below (by repeat (first | (with_reducible first | exact KA.out | apply blk_drewN | apply blk_drew | apply blk_alloc) | exact KA.out)) hb3
  have cA_0 := blk_cell KA.out 0
  have fA_0 := blk_frozen KA.out 0
  have cA_1 := blk_cell KA.out 1
  have fA_1 := blk_frozen KA.out 1
  have cA_2 := blk_cell KA.out 2
  have fA_2 := blk_frozen KA.out 2
  have cB_0 := blk_cell KB.out 0
  have fB_0 := blk_frozen KB.out 0
  have cB_1 := blk_cell KB.out 1
  have fB_1 := blk_frozen KB.out 1
  have cB_2 := blk_cell KB.out 2
  have fB_2 := blk_frozen KB.out 2
  replace HB : Hid (Below w.heap.size w w3) := below_step (by repeat (first | (with_reducible first | exact HB.out | exact Below.refl _ _ | apply below_alloc | apply bdr | apply below_drew1) | (refine below_set ?_ (by first | omega | (simp; done) | (simp; omega))) | exact HB.out | exact Below.refl _ _)) hb3
  clear hb3
  replace hltA := blk_lt KA.out
  have hltB := blk_lt KB.out
  go_wp2_with fail
  refine (unit_Parse.calls _ _ _ _ _ _ (Tabs.alloc (HT.out.below HB.out) _) v4).mono ?_
  rintro e w4 ⟨rfl, hb4⟩
  clear cA_0 fA_0 cA_1 fA_1 cA_2 fA_2
  replace KA : Hid (w4.heap[w.heap.size]? = some (.cells #[.int .i64 2, .int .i64 0, .int .i64 (-1)] 23 (0, 0))) := blk_below (by repeat (first | (with_reducible first | exact KA.out | apply blk_drewN | apply blk_drew | apply blk_alloc) | exact KA.out)) hb4
  have cA_0 := blk_cell KA.out 0
  have fA_0 := blk_frozen KA.out 0
  have cA_1 := blk_cell KA.out 1
  have fA_1 := blk_frozen KA.out 1
  have cA_2 := blk_cell KA.out 2
  have fA_2 := blk_frozen KA.out 2
  clear cB_0 fB_0 cB_1 fB_1 cB_2 fB_2
  replace KB : Hid (w4.heap[w2.heap.size]? = some (.cells #[.int .i64 (-8), .int .i64 0, .int .i64 4] 23 (0, 0))) := blk_below (by repeat (first | (with_reducible first | exact KB.out | apply blk_drewN | apply blk_drew | apply blk_alloc) | exact KB.out)) hb4
  have cB_0 := blk_cell KB.out 0
  have fB_0 := blk_frozen KB.out 0
  have cB_1 := blk_cell KB.out 1
  have fB_1 := blk_frozen KB.out 1
  have cB_2 := blk_cell KB.out 2
  have fB_2 := blk_frozen KB.out 2
  replace HB : Hid (Below w.heap.size w w4) := below_step (by repeat (first | (with_reducible first | exact HB.out | exact Below.refl _ _ | apply below_alloc | apply bdr | apply below_drew1) | (refine below_set ?_ (by first | omega | (simp; done) | (simp; omega))) | exact HB.out | exact Below.refl _ _)) hb4
  clear hb4
  replace hltA := blk_lt KA.out
  replace hltB := blk_lt KB.out
  go_wp2_with fail
  refine (unit_Parse.calls _ _ _ _ _ _ (Tabs.alloc (HT.out.below HB.out) _) v5).mono ?_
  rintro e w5 ⟨rfl, hb5⟩
  clear cA_0 fA_0 cA_1 fA_1 cA_2 fA_2
  replace KA : Hid (w5.heap[w.heap.size]? = some (.cells #[.int .i64 2, .int .i64 0, .int .i64 (-1)] 23 (0, 0))) := blk_below (by repeat (first | (with_reducible first | exact KA.out | apply blk_drewN | apply blk_drew | apply blk_alloc) | exact KA.out)) hb5
  have cA_0 := blk_cell KA.out 0
  have fA_0 := blk_frozen KA.out 0
  have cA_1 := blk_cell KA.out 1
  have fA_1 := blk_frozen KA.out 1
  have cA_2 := blk_cell KA.out 2
  have fA_2 := blk_frozen KA.out 2
  clear cB_0 fB_0 cB_1 fB_1 cB_2 fB_2
  replace KB : Hid (w5.heap[w2.heap.size]? = some (.cells #[.int .i64 (-8), .int .i64 0, .int .i64 4] 23 (0, 0))) := blk_below (by repeat (first | (with_reducible first | exact KB.out | apply blk_drewN | apply blk_drew | apply blk_alloc) | exact KB.out)) hb5
  have cB_0 := blk_cell KB.out 0
  have fB_0 := blk_frozen KB.out 0
  have cB_1 := blk_cell KB.out 1
  have fB_1 := blk_frozen KB.out 1
  have cB_2 := blk_cell KB.out 2
  have fB_2 := blk_frozen KB.out 2
  replace HB : Hid (Below w.heap.size w w5) := below_step (by repeat (first | (with_reducible first | exact HB.out | exact Below.refl _ _ | apply below_alloc | apply bdr | apply below_drew1) | (refine below_set ?_ (by first | omega | (simp; done) | (simp; omega))) | exact HB.out | exact Below.refl _ _)) hb5
  clear hb5
  replace hltA := blk_lt KA.out
  replace hltB := blk_lt KB.out
  go_wp2_with fail
  refine (unit_Parse.calls _ _ _ _ _ _ (Tabs.alloc (HT.out.below HB.out) _) v6).mono ?_
  rintro e w6 ⟨rfl, hb6⟩
  clear cA_0 fA_0 cA_1 fA_1 cA_2 fA_2
  replace KA : Hid (w6.heap[w.heap.size]? = some (.cells #[.int .i64 2, .int .i64 0, .int .i64 (-1)] 23 (0, 0))) := blk_below (by repeat (first | (with_reducible first | exact KA.out | apply blk_drewN | apply blk_drew | apply blk_alloc) | exact KA.out)) hb6
  have cA_0 := blk_cell KA.out 0
  have fA_0 := blk_frozen KA.out 0
  have cA_1 := blk_cell KA.out 1
  have fA_1 := blk_frozen KA.out 1
  have cA_2 := blk_cell KA.out 2
  have fA_2 := blk_frozen KA.out 2
  clear cB_0 fB_0 cB_1 fB_1 cB_2 fB_2
  replace KB : Hid (w6.heap[w2.heap.size]? = some (.cells #[.int .i64 (-8), .int .i64 0, .int .i64 4] 23 (0, 0))) := blk_below (by repeat (first | (with_reducible first | exact KB.out | apply blk_drewN | apply blk_drew | apply blk_alloc) | exact KB.out)) hb6
  have cB_0 := blk_cell KB.out 0
  have fB_0 := blk_frozen KB.out 0
  have cB_1 := blk_cell KB.out 1
  have fB_1 := blk_frozen KB.out 1
  have cB_2 := blk_cell KB.out 2
  have fB_2 := blk_frozen KB.out 2
  replace HB : Hid (Below w.heap.size w w6) := below_step (by repeat (first | (with_reducible first | exact HB.out | exact Below.refl _ _ | apply below_alloc | apply bdr | apply below_drew1) | (refine below_set ?_ (by first | omega | (simp; done) | (simp; omega))) | exact HB.out | exact Below.refl _ _)) hb6
  clear hb6
  replace hltA := blk_lt KA.out
  replace hltB := blk_lt KB.out
  go_wp2_with fail
  refine (unit_Parse.calls _ _ _ _ _ _ (Tabs.alloc (HT.out.below HB.out) _) v7).mono ?_
  rintro e w7 ⟨rfl, hb7⟩
  clear cA_0 fA_0 cA_1 fA_1 cA_2 fA_2
  replace KA : Hid (w7.heap[w.heap.size]? = some (.cells #[.int .i64 2, .int .i64 0, .int .i64 (-1)] 23 (0, 0))) := blk_below (by repeat (first | (with_reducible first | exact KA.out | apply blk_drewN | apply blk_drew | apply blk_alloc) | exact KA.out)) hb7
  have cA_0 := blk_cell KA.out 0
  have fA_0 := blk_frozen KA.out 0
  have cA_1 := blk_cell KA.out 1
  have fA_1 := blk_frozen KA.out 1
  have cA_2 := blk_cell KA.out 2
  have fA_2 := blk_frozen KA.out 2
  clear cB_0 fB_0 cB_1 fB_1 cB_2 fB_2
  replace KB : Hid (w7.heap[w2.heap.size]? = some (.cells #[.int .i64 (-8), .int .i64 0, .int .i64 4] 23 (0, 0))) := blk_below (by repeat (first | (with_reducible first | exact KB.out | apply blk_drewN | apply blk_drew | apply blk_alloc) | exact KB.out)) hb7
  have cB_0 := blk_cell KB.out 0
  have fB_0 := blk_frozen KB.out 0
  have cB_1 := blk_cell KB.out 1
  have fB_1 := blk_frozen KB.out 1
  have cB_2 := blk_cell KB.out 2
  have fB_2 := blk_frozen KB.out 2
  replace HB : Hid (Below w.heap.size w w7) := below_step (by repeat (first | (with_reducible first | exact HB.out | exact Below.refl _ _ | apply below_alloc | apply bdr | apply below_drew1) | (refine below_set ?_ (by first | omega | (simp; done) | (simp; omega))) | exact HB.out | exact Below.refl _ _)) hb7
  clear hb7
  replace hltA := blk_lt KA.out
  replace hltB := blk_lt KB.out
  go_wp2_with fail
  refine (observatorylaw32_text.calls _ _ _ _ _ _ (Tabs.alloc (HT.out.below HB.out) _) x1).mono ?_
  rintro e w8 ⟨rfl, hb8⟩
  have KC : Hid (w8.heap[w7.heap.size]? = some (.cells #[.int .i64 2, .int .i64 0, .int .i64 (-1)] 23 (0, 0))) := blk_below (blk_new w7 _) hb8
  clear cA_0 fA_0 cA_1 fA_1 cA_2 fA_2
  replace KA : Hid (w8.heap[w.heap.size]? = some (.cells #[.int .i64 2, .int .i64 0, .int .i64 (-1)] 23 (0, 0))) := blk_below (by repeat (first | (with_reducible first | exact KA.out | apply blk_drewN | apply blk_drew | apply blk_alloc) | exact KA.out)) hb8
  have cA_0 := blk_cell KA.out 0
  have fA_0 := blk_frozen KA.out 0
  have cA_1 := blk_cell KA.out 1
  have fA_1 := blk_frozen KA.out 1
  have cA_2 := blk_cell KA.out 2
  have fA_2 := blk_frozen KA.out 2
  clear cB_0 fB_0 cB_1 fB_1 cB_2 fB_2
  replace KB : Hid (w8.heap[w2.heap.size]? = some (.cells #[.int .i64 (-8), .int .i64 0, .int .i64 4] 23 (0, 0))) := blk_below (by repeat (first | (with_reducible first | exact KB.out | apply blk_drewN | apply blk_drew | apply blk_alloc) | exact KB.out)) hb8
  have cB_0 := blk_cell KB.out 0
  have fB_0 := blk_frozen KB.out 0
  have cB_1 := blk_cell KB.out 1
  have fB_1 := blk_frozen KB.out 1
  have cB_2 := blk_cell KB.out 2
  have fB_2 := blk_frozen KB.out 2
  have cC_0 := blk_cell KC.out 0
  have fC_0 := blk_frozen KC.out 0
  have cC_1 := blk_cell KC.out 1
  have fC_1 := blk_frozen KC.out 1
  have cC_2 := blk_cell KC.out 2
  have fC_2 := blk_frozen KC.out 2
  replace HB : Hid (Below w.heap.size w w8) := below_step (by repeat (first | (with_reducible first | exact HB.out | exact Below.refl _ _ | apply below_alloc | apply bdr | apply below_drew1) | (refine below_set ?_ (by first | omega | (simp; done) | (simp; omega))) | exact HB.out | exact Below.refl _ _)) hb8
  clear hb8
  replace hltA := blk_lt KA.out
  replace hltB := blk_lt KB.out
  have hltC := blk_lt KC.out
  go_wp2_with fail
  refine (observatorylaw32_text.calls _ _ _ _ _ _ (HT.out.below HB.out) x2).mono ?_
  rintro e w9 ⟨rfl, hb9⟩
  clear cA_0 fA_0 cA_1 fA_1 cA_2 fA_2
  replace KA : Hid (w9.heap[w.heap.size]? = some (.cells #[.int .i64 2, .int .i64 0, .int .i64 (-1)] 23 (0, 0))) := blk_below (by repeat (first | (with_reducible first | exact KA.out | apply blk_drewN | apply blk_drew | apply blk_alloc) | exact KA.out)) hb9
  have cA_0 := blk_cell KA.out 0
  have fA_0 := blk_frozen KA.out 0
  have cA_1 := blk_cell KA.out 1
  have fA_1 := blk_frozen KA.out 1
  have cA_2 := blk_cell KA.out 2
  have fA_2 := blk_frozen KA.out 2
  clear cB_0 fB_0 cB_1 fB_1 cB_2 fB_2
  replace KB : Hid (w9.heap[w2.heap.size]? = some (.cells #[.int .i64 (-8), .int .i64 0, .int .i64 4] 23 (0, 0))) := blk_below (by repeat (first | (with_reducible first | exact KB.out | apply blk_drewN | apply blk_drew | apply blk_alloc) | exact KB.out)) hb9
  have cB_0 := blk_cell KB.out 0
  have fB_0 := blk_frozen KB.out 0
  have cB_1 := blk_cell KB.out 1
  have fB_1 := blk_frozen KB.out 1
  have cB_2 := blk_cell KB.out 2
  have fB_2 := blk_frozen KB.out 2
  clear cC_0 fC_0 cC_1 fC_1 cC_2 fC_2
  replace KC : Hid (w9.heap[w7.heap.size]? = some (.cells #[.int .i64 2, .int .i64 0, .int .i64 (-1)] 23 (0, 0))) := blk_below (by repeat (first | (with_reducible first | exact KC.out | apply blk_drewN | apply blk_drew | apply blk_alloc) | exact KC.out)) hb9
  have cC_0 := blk_cell KC.out 0
  have fC_0 := blk_frozen KC.out 0
  have cC_1 := blk_cell KC.out 1
  have fC_1 := blk_frozen KC.out 1
  have cC_2 := blk_cell KC.out 2
  have fC_2 := blk_frozen KC.out 2
  replace HB : Hid (Below w.heap.size w w9) := below_step (by repeat (first | (with_reducible first | exact HB.out | exact Below.refl _ _ | apply below_alloc | apply bdr | apply below_drew1) | (refine below_set ?_ (by first | omega | (simp; done) | (simp; omega))) | exact HB.out | exact Below.refl _ _)) hb9
  clear hb9
  go_wp2_with fail
  refine (observatorylaw32_text.calls _ _ _ _ _ _ (HT.out.below HB.out) x3).mono ?_
  rintro e w10 ⟨rfl, hb10⟩
  clear cA_0 fA_0 cA_1 fA_1 cA_2 fA_2
  replace KA : Hid (w10.heap[w.heap.size]? = some (.cells #[.int .i64 2, .int .i64 0, .int .i64 (-1)] 23 (0, 0))) := blk_below (by repeat (first | (with_reducible first | exact KA.out | apply blk_drewN | apply blk_drew | apply blk_alloc) | exact KA.out)) hb10
  have cA_0 := blk_cell KA.out 0
  have fA_0 := blk_frozen KA.out 0
  have cA_1 := blk_cell KA.out 1
  have fA_1 := blk_frozen KA.out 1
  have cA_2 := blk_cell KA.out 2
  have fA_2 := blk_frozen KA.out 2
  clear cB_0 fB_0 cB_1 fB_1 cB_2 fB_2
  replace KB : Hid (w10.heap[w2.heap.size]? = some (.cells #[.int .i64 (-8), .int .i64 0, .int .i64 4] 23 (0, 0))) := blk_below (by repeat (first | (with_reducible first | exact KB.out | apply blk_drewN | apply blk_drew | apply blk_alloc) | exact KB.out)) hb10
  have cB_0 := blk_cell KB.out 0
  have fB_0 := blk_frozen KB.out 0
  have cB_1 := blk_cell KB.out 1
  have fB_1 := blk_frozen KB.out 1
  have cB_2 := blk_cell KB.out 2
  have fB_2 := blk_frozen KB.out 2
  clear cC_0 fC_0 cC_1 fC_1 cC_2 fC_2
  replace KC : Hid (w10.heap[w7.heap.size]? = some (.cells #[.int .i64 2, .int .i64 0, .int .i64 (-1)] 23 (0, 0))) := blk_below (by repeat (first | (with_reducible first | exact KC.out | apply blk_drewN | apply blk_drew | apply blk_alloc) | exact KC.out)) hb10
  have cC_0 := blk_cell KC.out 0
  have fC_0 := blk_frozen KC.out 0
  have cC_1 := blk_cell KC.out 1
  have fC_1 := blk_frozen KC.out 1
  have cC_2 := blk_cell KC.out 2
  have fC_2 := blk_frozen KC.out 2
  replace HB : Hid (Below w.heap.size w w10) := below_step (by repeat (first | (with_reducible first | exact HB.out | exact Below.refl _ _ | apply below_alloc | apply bdr | apply below_drew1) | (refine below_set ?_ (by first | omega | (simp; done) | (simp; omega))) | exact HB.out | exact Below.refl _ _)) hb10
  clear hb10
  go_wp2_with fail
  go_ret
  exact ⟨rfl, HB.out⟩

end Go.Proofs.YtifamjapgpcjjaaDoor.Ext
