/- The law ExecNot, walked. -/
import Derived.Test.YtamabdijeklgjaaDoorExecQ
namespace Go.Proofs.YtamabdijeklgjaaDoor.Ext
open Go Go.Proofs Go.RowKit Go.Proofs.YtamabdijeklgjaaDoorW.PrintWords
set_option linter.unusedVariables false
set_option linter.unusedSimpArgs false

set_option maxRecDepth 100000 in
set_option maxHeartbeats 8000000 in
theorem not_walk (name nm2 : ByteArray) (ver ver2 : Int) (A IA : Option Addr) (c ci : Nat) (l ins : List FS) (bud : Int) (w : World) (hr : Kd.C L.k32 w A l.length l) (hc : l.length ≤ c) (hI : Kd.C L.k32 w IA ins.length ins) (hT : LogicTab w) (hb0 : 0 ≤ bud) (hb1 : bud ≤ 255) :
    Calls Tryd.prog 7 #[.agg #[.string name, .int .i64 ver, .slice A l.length c], .slice IA ins.length ci, .int .u8 bud, .string nm2, .int .i64 ver2] w fun e w' => e = .returned (.bool true) ∧ Below w.heap.size w w' := by
  have hB := below_allocs w (.cells #[.string name, .int .i64 ver, .slice A l.length c] 24)
  have BK := Lib.hid (blk_new w (.cells #[.string name, .int .i64 ver, .slice A l.length c] 24))
  have HR := Lib.hid (Kd.C_below hr hB)
  have HI := Lib.hid (Kd.C_below hI hB)
  have HT := Lib.hid (hT.below hB)
  have HC := Lib.hid hc
  have HB := Lib.hid hB
  obtain ⟨few, hfew⟩ : ∃ q, ((decide (l.length ≤ 50) && decide (name.size ≤ 60)) && decide (ins.length ≤ 6)) = q := ⟨_, rfl⟩
  have HF := Lib.hid hfew
  clear hr hI hT hc hB hfew
  go_enter Tryd.func7, Tryd.ntmps7
  go_wp2_with fail
  refine (head34_calls _ HT.out).mono ?_
  rintro e w1 ⟨rfl, hb⟩
  have BK1 := Lib.hid (blk_below BK.out hb)
  have HR1 := Lib.hid (Kd.C_below HR.out hb)
  have HI1 := Lib.hid (Kd.C_below HI.out hb)
  have HT1 := Lib.hid (HT.out.below hb)
  have HB1 := Lib.hid (below_step HB.out hb)
  clear hb BK HR HI HT HB
  have f0 := blk_cell BK1.out 0
  have f1 := blk_cell BK1.out 1
  have f2 := blk_cell BK1.out 2
  go_wp2_with fail
  refine (few34_calls name ver A IA c ci ins.length l _ HR1.out HC.out).mono ?_
  rintro e w2 ⟨rfl, hb⟩
  have BK2 := Lib.hid (blk_below BK1.out hb)
  have HR2 := Lib.hid (Kd.C_below HR1.out hb)
  have HI2 := Lib.hid (Kd.C_below HI1.out hb)
  have HT2 := Lib.hid (HT1.out.below hb)
  have HB2 := Lib.hid (below_step HB1.out hb)
  clear hb BK1 HR1 HI1 HT1 HB1
  rw [HF.out]
  clear f0 f1 f2
  have f0 := blk_cell BK2.out 0
  have f1 := blk_cell BK2.out 1
  have f2 := blk_cell BK2.out 2
  cases few with
  | false =>
    go_wp2_with fail
    go_ret
    exact ⟨rfl, HB2.out⟩
  | true =>
  have hl50 : l.length ≤ 50 := by
    have := HF.out
    simp only [Bool.and_eq_true, decide_eq_true_eq] at this
    exact this.1.1
  by_cases hl0 : l.length = 0
  · have hz : ((l.length : Int) == 0) = true := by rw [hl0]; rfl
    go_wp2_with fail
    go_ret
    exact ⟨rfl, HB2.out⟩
  have hz : ((l.length : Int) == 0) = false := by simpa using hl0
  by_cases hl40 : 40 ≤ l.length
  · have hz1 : decide ((40 : Int) ≤ (l.length : Int)) = true := decide_eq_true (by omega)
    have hz2 : (40 : Int) ≤ (l.length : Int) := by omega
    go_wp2_with fail
    go_ret
    exact ⟨rfl, HB2.out⟩
  have hz1 : decide ((40 : Int) ≤ (l.length : Int)) = false := decide_eq_false (by omega)
  have hz2 : ¬ (40 : Int) ≤ (l.length : Int) := by omega
  obtain ⟨b, o, rfl, hst⟩ := steps_view HR2.out (by intro e; rw [e] at hl0; simp at hl0)
  have HS := Lib.hid hst
  clear hst
  obtain ⟨it, hi, hi0, hi1, hi2⟩ := info_parts infoFS
  obtain ⟨l2, hl2⟩ : ∃ l2, l ++ [(⟨10, (l.length : Int) - 1, 0, 0⟩ : FS)] = l2 := ⟨_, rfl⟩
  have hlen2 : l2.length = l.length + 1 := by rw [← hl2]; simp
  have HL2 := Lib.hid hl2
  have HLEN := Lib.hid hlen2
  clear hl2 hlen2
  have lF := blk_lt BK2.out
  go_wp2_with (first | (at_builtin; refine wpList_append_own _ rfl _ _ 22 rfl w2.heap.size 32 it (.agg #[.int .i64 0, .int .i64 0, .int .i64 0, .int .i64 0]) 4 32 Tryd.underlying22 hi hi0 hi1 hi2 rfl (by decide) _ 0 [] rfl (own_empty ?cb) ⟨b, o, none⟩ l.length c (encFS l) rfl (encFS_length l) ?c1 encFS_one ?c3 ?c4 ?c5 ?_) | fail)
  case cb => exact Nat.le_refl _
  case c1 => exact steps_cells (HS.out.below (below_allocs w2 _))
  case c3 => unfold maxLen; omega
  case c4 => omega
  case c5 => simp
  intro v' w3 hown hgrow _
  have HB3 := Lib.hid (below_grown_own (below_allocs w2 _) (own_empty (size := 4) (Nat.le_refl _)) hgrow)
  try rw [Nat.zero_add, List.nil_append] at hown
  obtain ⟨A2, c2, rfl⟩ := own_view hown
  have HO3 := Lib.hid hown
  clear hgrow hown f0 f1 f2 lF
  go_wp2_with (first | (at_builtin; refine wpList_append_own _ rfl _ _ 22 rfl w2.heap.size 32 it (.agg #[.int .i64 0, .int .i64 0, .int .i64 0, .int .i64 0]) 4 32 Tryd.underlying22 hi hi0 hi1 hi2 rfl (by decide) _ _ _ rfl (HO3.out.alloc _) ⟨w3.heap.size, 0, none⟩ 1 1 [.int .i64 10, .int .i64 ((l.length : Int) - 1), .int .i64 0, .int .i64 0] rfl rfl ?c1 ?c2 ?c3 ?c4 ?c5 ?_) | fail)
  case c1 =>
    have hn := blk_new w3 (.cells #[.int .i64 10, .int .i64 ((l.length : Int) - 1), .int .i64 0, .int .i64 0] 32)
    intro j u hj
    match j, hj with
    | 0, hj => simp at hj; subst hj; exact blk_cell hn 0
    | 1, hj => simp at hj; subst hj; exact blk_cell hn 1
    | 2, hj => simp at hj; subst hj; exact blk_cell hn 2
    | 3, hj => simp at hj; subst hj; exact blk_cell hn 3
  case c2 => intro u hu; simp at hu; rcases hu with rfl | rfl | rfl | rfl <;> rfl
  case c3 => unfold maxLen; omega
  case c4 => omega
  case c5 => have := HB3.out.size; simp; omega
  intro v2 w4 hown hgrow _
  have hb := below_grown_own (below_alloc HB3.out _) (HO3.out.alloc _) hgrow
  have hown2 : w4.ownsRow w2.heap.size 32 4 v2 l2.length (encFS l2) := by
    rw [HLEN.out, ← HL2.out, encFS_push]
    exact hown
  obtain ⟨A3, c3, rfl, hc3, hC3⟩ := Kd.R_reads (steps_R hown2)
  have HG4 := Lib.hid hC3
  have HC3 := Lib.hid hc3
  have BK4 := Lib.hid (blk_below BK2.out hb)
  have HR4 := Lib.hid (Kd.C_below HR2.out hb)
  have HI4 := Lib.hid (Kd.C_below HI2.out hb)
  have HT4 := Lib.hid (HT2.out.below hb)
  have HB4 := Lib.hid (below_step HB2.out hb)
  clear hb hown hgrow hown2 hC3 hc3 HO3 HB3 BK2 HR2 HI2 HT2 HB2 HS
  have bel := below_allocs w4 (.cells #[.string nm2, .int .i64 ver2, .slice A3 l2.length c3] 24)
  have KG5 := Lib.hid (blk_new w4 (.cells #[.string nm2, .int .i64 ver2, .slice A3 l2.length c3] 24))
  have BK5 := Lib.hid (blk_below BK4.out bel)
  have HR5 := Lib.hid (Kd.C_below HR4.out bel)
  have HG5 := Lib.hid (Kd.C_below HG4.out bel)
  have HI5 := Lib.hid (Kd.C_below HI4.out bel)
  have HT5 := Lib.hid (HT4.out.below bel)
  have HB5 := Lib.hid (below_step HB4.out bel)
  have hf0 := (bel.cell (p := ⟨w.heap.size, 0, none⟩) (blk_lt BK4.out)).trans (blk_cell BK4.out 0)
  clear bel BK4 HR4 HG4 HI4 HT4 HB4 hf0
  go_upto_region 6 with fail
  generalize w4.alloc (.cells #[.string nm2, .int .i64 ver2, .slice A3 l2.length c3] 24) = W5 at KG5 BK5 HR5 HG5 HI5 HT5 HB5 ⊢
  generalize w4.heap.size = NG at KG5 ⊢
  have f0 := blk_cell BK5.out 0
  have f1 := blk_cell BK5.out 1
  have f2 := blk_cell BK5.out 2
  have g0 := blk_cell KG5.out 0
  have g1 := blk_cell KG5.out 1
  have g2 := blk_cell KG5.out 2
  by_cases h60 : 60 < nm2.size
  · have hz3 : (60 : Int) < (nm2.size : Int) := by omega
    have hz4 : decide ((60 : Int) < (nm2.size : Int)) = true := decide_eq_true hz3
    go_wp2_with fail
    go_ret
    exact ⟨rfl, HB5.out⟩
  have hz3 : ¬ (60 : Int) < (nm2.size : Int) := by omega
  have hz4 : decide ((60 : Int) < (nm2.size : Int)) = false := decide_eq_false hz3
  obtain ⟨q1, hq1⟩ : ∃ q, validB name.data.toList ver l = q := ⟨_, rfl⟩
  obtain ⟨q2, hq2⟩ : ∃ q, validB nm2.data.toList ver2 l2 = q := ⟨_, rfl⟩
  have HQ1 := Lib.hid hq1
  have HQ2 := Lib.hid hq2
  clear hq1 hq2
  go_wp2_with fail
  refine (flow_Valid.calls name ver _ c l q1 _ HR5.out HC.out (by unfold flow_Valid.f; rw [HQ1.out])).mono ?_
  rintro e w6 ⟨rfl, hb⟩
  have BK6 := Lib.hid (blk_below BK5.out hb)
  have KG6 := Lib.hid (blk_below KG5.out hb)
  have HR6 := Lib.hid (Kd.C_below HR5.out hb)
  have HG6 := Lib.hid (Kd.C_below HG5.out hb)
  have HI6 := Lib.hid (Kd.C_below HI5.out hb)
  have HT6 := Lib.hid (HT5.out.below hb)
  have HB6 := Lib.hid (below_step HB5.out hb)
  clear hb BK5 KG5 HR5 HG5 HI5 HT5 HB5
  clear f0 f1 f2 g0 g1 g2
  have f0 := blk_cell BK6.out 0
  have f1 := blk_cell BK6.out 1
  have f2 := blk_cell BK6.out 2
  have g0 := blk_cell KG6.out 0
  have g1 := blk_cell KG6.out 1
  have g2 := blk_cell KG6.out 2
  cases q1 with
  | false =>
    go_wp2_with fail
    go_ret
    exact ⟨rfl, HB6.out⟩
  | true =>
  go_wp2_with fail
  refine (flow_Valid.calls nm2 ver2 _ c3 l2 q2 _ HG6.out HC3.out (by unfold flow_Valid.f; rw [HQ2.out])).mono ?_
  rintro e w7 ⟨rfl, hb⟩
  have BK7 := Lib.hid (blk_below BK6.out hb)
  have KG7 := Lib.hid (blk_below KG6.out hb)
  have HR7 := Lib.hid (Kd.C_below HR6.out hb)
  have HG7 := Lib.hid (Kd.C_below HG6.out hb)
  have HI7 := Lib.hid (Kd.C_below HI6.out hb)
  have HT7 := Lib.hid (HT6.out.below hb)
  have HB7 := Lib.hid (below_step HB6.out hb)
  clear hb BK6 KG6 HR6 HG6 HI6 HT6 HB6
  clear f0 f1 f2 g0 g1 g2
  have f0 := blk_cell BK7.out 0
  have f1 := blk_cell BK7.out 1
  have f2 := blk_cell BK7.out 2
  have g0 := blk_cell KG7.out 0
  have g1 := blk_cell KG7.out 1
  have g2 := blk_cell KG7.out 2
  cases q2 with
  | false =>
    go_wp2_with fail
    go_ret
    exact ⟨rfl, HB7.out⟩
  | true =>
  obtain ⟨a0, a1, a2, a3, u1, e1, d0, d1, d2, d3, u2, e2, HA, HD, HW⟩ := not_letters (ni := ins.length) (I := pixI ins) hb0 HQ1.out (by rw [HL2.out]; exact HQ2.out)
  rw [HL2.out] at HD
  clear HQ1 HQ2
  go_wp2_with fail
  refine (run_at HA.out _ HR7.out HI7.out HT7.out).mono ?_
  rintro e w8 ⟨rfl, hb⟩
  have BK8 := Lib.hid (blk_below BK7.out hb)
  have KG8 := Lib.hid (blk_below KG7.out hb)
  have HR8 := Lib.hid (Kd.C_below HR7.out hb)
  have HG8 := Lib.hid (Kd.C_below HG7.out hb)
  have HI8 := Lib.hid (Kd.C_below HI7.out hb)
  have HT8 := Lib.hid (HT7.out.below hb)
  have HB8 := Lib.hid (below_step HB7.out hb)
  clear hb BK7 KG7 HR7 HG7 HI7 HT7 HB7
  clear f0 f1 f2 g0 g1 g2
  have f0 := blk_cell BK8.out 0
  have f1 := blk_cell BK8.out 1
  have f2 := blk_cell BK8.out 2
  have g0 := blk_cell KG8.out 0
  have g1 := blk_cell KG8.out 1
  have g2 := blk_cell KG8.out 2
  have lF := blk_lt BK8.out
  have lG := blk_lt KG8.out
  go_wp2_with fail
  clear lF lG f0 f1 f2 g0 g1 g2
  have bel := below_allocs w8 (.cells #[.int .i64 a0, .int .i64 a1, .int .i64 a2, .int .i64 a3] 44)
  have KA9 := Lib.hid (blk_new w8 (.cells #[.int .i64 a0, .int .i64 a1, .int .i64 a2, .int .i64 a3] 44))
  have BK9 := Lib.hid (blk_below BK8.out bel)
  have KG9 := Lib.hid (blk_below KG8.out bel)
  have HR9 := Lib.hid (Kd.C_below HR8.out bel)
  have HG9 := Lib.hid (Kd.C_below HG8.out bel)
  have HI9 := Lib.hid (Kd.C_below HI8.out bel)
  have HT9 := Lib.hid (HT8.out.below bel)
  have HB9 := Lib.hid (below_step HB8.out bel)
  clear bel BK8 KG8 HR8 HG8 HI8 HT8 HB8
  generalize w8.alloc (.cells #[.int .i64 a0, .int .i64 a1, .int .i64 a2, .int .i64 a3] 44) = W9 at BK9 KG9 HR9 HG9 HI9 HT9 HB9 KA9 ⊢
  generalize w8.heap.size = NA at KA9 ⊢
  have f0 := blk_cell BK9.out 0
  have f1 := blk_cell BK9.out 1
  have f2 := blk_cell BK9.out 2
  have g0 := blk_cell KG9.out 0
  have g1 := blk_cell KG9.out 1
  have g2 := blk_cell KG9.out 2
  go_wp2_with fail
  refine (run_at HD.out _ HG9.out HI9.out HT9.out).mono ?_
  rintro e wx ⟨rfl, hb⟩
  have BKx := Lib.hid (blk_below BK9.out hb)
  have KGx := Lib.hid (blk_below KG9.out hb)
  have KAx := Lib.hid (blk_below KA9.out hb)
  have HRx := Lib.hid (Kd.C_below HR9.out hb)
  have HGx := Lib.hid (Kd.C_below HG9.out hb)
  have HIx := Lib.hid (Kd.C_below HI9.out hb)
  have HTx := Lib.hid (HT9.out.below hb)
  have HBx := Lib.hid (below_step HB9.out hb)
  clear hb BK9 KG9 HR9 HG9 HI9 HT9 HB9 KA9
  clear f0 f1 f2 g0 g1 g2
  have bel := below_allocs wx (.cells #[.int .i64 d0, .int .i64 d1, .int .i64 d2, .int .i64 d3] 44)
  have lA := blk_lt KAx.out
  have KD8 := Lib.hid (blk_new wx (.cells #[.int .i64 d0, .int .i64 d1, .int .i64 d2, .int .i64 d3] 44))
  have KA8 := Lib.hid (blk_below KAx.out bel)
  have HB8 := Lib.hid (below_step HBx.out bel)
  clear bel BKx KGx HRx HGx HIx HTx HBx KAx
  rcases HW.out with ⟨rfl, rfl⟩ | ⟨rfl, rfl⟩ | ⟨rfl, rfl, rfl, h0, h1, h2, h3⟩
  · clear HW HA HD HF
    go_wp2_with fail
    go_ret
    exact ⟨rfl, HB8.out⟩
  · clear HW HA HD HF
    go_wp2_with fail
    go_ret
    exact ⟨rfl, HB8.out⟩
  · have B0 := Lib.hid h0
    have B1 := Lib.hid h1
    have B2 := Lib.hid h2
    have B3 := Lib.hid h3
    clear HW HA HD HF h0 h1 h2 h3
    go_wp2_with fail
    generalize wx.alloc (.cells #[.int .i64 d0, .int .i64 d1, .int .i64 d2, .int .i64 d3] 44) = W8 at KA8 KD8 HB8 ⊢
    generalize wx.heap.size = ND at KD8 lA ⊢
    go_loopg [20] 4 (fun g v20 wx => ∃ cc : Nat, cc + g = 4 ∧ v20 = .int .i64 cc ∧ Hid (∃ m, wx = W8.drewN m))
    case atStart => exact ⟨0, rfl, rfl, Lib.hid ⟨0, rfl⟩⟩
    case round =>
      obtain ⟨cc, hcg, rfl, HW8⟩ := hrel
      obtain ⟨mm, rfl⟩ := HW8.out
      clear HW8
      cases gk with
      | zero =>
        obtain rfl : cc = 4 := by omega
        have hz5 : (u1 == u1) = true := by simp
        go_wp2_with fail
        go_ret
        exact ⟨rfl, bdr HB8.out mm⟩
      | succ g =>
        have hcs : cc = 0 ∨ cc = 1 ∨ cc = 2 ∨ cc = 3 := by omega
        rcases hcs with rfl | rfl | rfl | rfl
        · have ca := blk_cell KA8.out 0
          have cd := blk_cell KD8.out 0
          rcases B0.out with ⟨rfl, rfl⟩ | ⟨rfl, rfl⟩ | ⟨rfl, rfl⟩
          all_goals
            go_wp2_with fail
            go_quiet (fail)
            go_wp2_with fail
            go_roundg g
            case measure => omega
            case rel => exact ⟨1, by omega, by go_num, Lib.hid ⟨_, rfl⟩⟩
        · have ca := blk_cell KA8.out 1
          have cd := blk_cell KD8.out 1
          rcases B1.out with ⟨rfl, rfl⟩ | ⟨rfl, rfl⟩ | ⟨rfl, rfl⟩
          all_goals
            go_wp2_with fail
            go_quiet (fail)
            go_wp2_with fail
            go_roundg g
            case measure => omega
            case rel => exact ⟨2, by omega, by go_num, Lib.hid ⟨_, rfl⟩⟩
        · have ca := blk_cell KA8.out 2
          have cd := blk_cell KD8.out 2
          rcases B2.out with ⟨rfl, rfl⟩ | ⟨rfl, rfl⟩ | ⟨rfl, rfl⟩
          all_goals
            go_wp2_with fail
            go_quiet (fail)
            go_wp2_with fail
            go_roundg g
            case measure => omega
            case rel => exact ⟨3, by omega, by go_num, Lib.hid ⟨_, rfl⟩⟩
        · have ca := blk_cell KA8.out 3
          have cd := blk_cell KD8.out 3
          rcases B3.out with ⟨rfl, rfl⟩ | ⟨rfl, rfl⟩ | ⟨rfl, rfl⟩
          all_goals
            go_wp2_with fail
            go_quiet (fail)
            go_wp2_with fail
            go_roundg g
            case measure => omega
            case rel => exact ⟨4, by omega, by go_num, Lib.hid ⟨_, rfl⟩⟩
end Go.Proofs.YtamabdijeklgjaaDoor.Ext
