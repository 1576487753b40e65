/- The law ExecEnough, walked. -/
import Derived.Test.YtamabdijeklgjaaDoorExecL
namespace Go.Proofs.YtamabdijeklgjaaDoor.Ext
open Go Go.Proofs Go.RowKit Go.Proofs.YtamabdijeklgjaaDoorW.PrintWords
set_option linter.unusedVariables false
set_option linter.unusedSimpArgs false

set_option maxRecDepth 100000 in
set_option maxHeartbeats 8000000 in
theorem enough_walk (name : ByteArray) (ver : Int) (A IA : Option Addr) (c ci : Nat) (l ins : List FS) (more : Int) (w : World) (hr : Kd.C L.k32 w A l.length l) (hc : l.length ≤ c) (hI : Kd.C L.k32 w IA ins.length ins) (hT : LogicTab w) (hm0 : 0 ≤ more) (hm1 : more ≤ 65535) :
    Calls Tryd.prog 5 #[.agg #[.string name, .int .i64 ver, .slice A l.length c], .slice IA ins.length ci, .int .u16 more] w fun e w' => e = .returned (.bool true) ∧ Below w.heap.size w w' := by
  have hB := below_allocs w (.cells #[.string name, .int .i64 ver, .slice A l.length c] 24)
  have BK := Lib.hid (blk_new w (.cells #[.string name, .int .i64 ver, .slice A l.length c] 24))
  have HR := Lib.hid (Kd.C_below hr hB)
  have HI := Lib.hid (Kd.C_below hI hB)
  have HT := Lib.hid (hT.below hB)
  have HC := Lib.hid hc
  have HB := Lib.hid hB
  obtain ⟨few, hfew⟩ : ∃ q, ((decide (l.length ≤ 50) && decide (name.size ≤ 60)) && decide (ins.length ≤ 6)) = q := ⟨_, rfl⟩
  have HF := Lib.hid hfew
  have HE := Lib.hid (enough_cases name.data.toList ver l ins.length (pixI ins) more hm0)
  clear hr hI hT hc hB hfew
  go_enter Tryd.func5, Tryd.ntmps5
  go_wp2_with fail
  refine (head34_calls _ HT.out).mono ?_
  rintro e w1 ⟨rfl, hb⟩
  have BK1 := Lib.hid (blk_below BK.out hb)
  have HR1 := Lib.hid (Kd.C_below HR.out hb)
  have HI1 := Lib.hid (Kd.C_below HI.out hb)
  have HT1 := Lib.hid (HT.out.below hb)
  have HB1 := Lib.hid (below_step HB.out hb)
  clear hb BK HR HI HT HB
  have f0 := blk_cell BK1.out 0
  have f1 := blk_cell BK1.out 1
  have f2 := blk_cell BK1.out 2
  go_wp2_with fail
  refine (few34_calls name ver A IA c ci ins.length l _ HR1.out HC.out).mono ?_
  rintro e w2 ⟨rfl, hb⟩
  have BK2 := Lib.hid (blk_below BK1.out hb)
  have HR2 := Lib.hid (Kd.C_below HR1.out hb)
  have HI2 := Lib.hid (Kd.C_below HI1.out hb)
  have HT2 := Lib.hid (HT1.out.below hb)
  have HB2 := Lib.hid (below_step HB1.out hb)
  clear hb BK1 HR1 HI1 HT1 HB1
  rw [HF.out]
  clear f0 f1 f2
  have f0 := blk_cell BK2.out 0
  have f1 := blk_cell BK2.out 1
  have f2 := blk_cell BK2.out 2
  cases few with
  | false =>
    go_wp2_with fail
    go_ret
    exact ⟨rfl, HB2.out⟩
  | true =>
  have hl50 : l.length ≤ 50 := by
    have := HF.out
    simp only [Bool.and_eq_true, decide_eq_true_eq] at this
    exact this.1.1
  obtain ⟨a0, a1, a2, a3, au, e1, b0, b1, b2, b3, e2, c0, c1, c2, c3, e3, HA, HBB, HCC, HW⟩ := enough_letters HE.out
  clear HE
  go_wp2_with fail
  refine (run_at HA.out _ HR2.out HI2.out HT2.out).mono ?_
  rintro e w3 ⟨rfl, hb⟩
  have BK3 := Lib.hid (blk_below BK2.out hb)
  have HR3 := Lib.hid (Kd.C_below HR2.out hb)
  have HI3 := Lib.hid (Kd.C_below HI2.out hb)
  have HT3 := Lib.hid (HT2.out.below hb)
  have HB3 := Lib.hid (below_step HB2.out hb)
  clear hb BK2 HR2 HI2 HT2 HB2
  clear f0 f1 f2
  have f0 := blk_cell BK3.out 0
  have f1 := blk_cell BK3.out 1
  have f2 := blk_cell BK3.out 2
  have lF := blk_lt BK3.out
  go_wp2_with fail
  clear lF f0 f1 f2
  have bel := below_allocs w3 (.cells #[.int .i64 a0, .int .i64 a1, .int .i64 a2, .int .i64 a3] 44)
  have KA4 := Lib.hid (blk_new w3 (.cells #[.int .i64 a0, .int .i64 a1, .int .i64 a2, .int .i64 a3] 44))
  have BK4 := Lib.hid (blk_below BK3.out bel)
  have HR4 := Lib.hid (Kd.C_below HR3.out bel)
  have HI4 := Lib.hid (Kd.C_below HI3.out bel)
  have HT4 := Lib.hid (HT3.out.below bel)
  have HB4 := Lib.hid (below_step HB3.out bel)
  clear bel BK3 HR3 HI3 HT3 HB3 
  generalize w3.alloc (.cells #[.int .i64 a0, .int .i64 a1, .int .i64 a2, .int .i64 a3] 44) = W4 at BK4 HR4 HI4 HT4 HB4 KA4 ⊢
  generalize w3.heap.size = NA at KA4 ⊢
  refine (full_at HBB.out _ HR4.out HI4.out HT4.out (by omega)).mono ?_
  rintro e w5 ⟨rfl, hb⟩
  have BK5 := Lib.hid (blk_below BK4.out hb)
  have HR5 := Lib.hid (Kd.C_below HR4.out hb)
  have HI5 := Lib.hid (Kd.C_below HI4.out hb)
  have HT5 := Lib.hid (HT4.out.below hb)
  have HB5 := Lib.hid (below_step HB4.out hb)
  have KA5 := Lib.hid (blk_below KA4.out hb)
  clear KA4
  clear hb BK4 HR4 HI4 HT4 HB4
  have f0 := blk_cell BK5.out 0
  have f1 := blk_cell BK5.out 1
  have f2 := blk_cell BK5.out 2
  have lF := blk_lt BK5.out
  go_wp2_with fail
  clear lF f0 f1 f2
  have bel := below_allocs w5 (.cells #[.bool b0, .bool b1, .bool b2, .bool b3] 48)
  have KB6 := Lib.hid (blk_new w5 (.cells #[.bool b0, .bool b1, .bool b2, .bool b3] 48))
  have BK6 := Lib.hid (blk_below BK5.out bel)
  have HR6 := Lib.hid (Kd.C_below HR5.out bel)
  have HI6 := Lib.hid (Kd.C_below HI5.out bel)
  have HT6 := Lib.hid (HT5.out.below bel)
  have HB6 := Lib.hid (below_step HB5.out bel)
  have KA6 := Lib.hid (blk_below KA5.out bel)
  clear bel BK5 HR5 HI5 HT5 HB5 KA5
  generalize w5.alloc (.cells #[.bool b0, .bool b1, .bool b2, .bool b3] 48) = W6 at BK6 HR6 HI6 HT6 HB6 KA6 KB6 ⊢
  generalize w5.heap.size = NB at KB6 ⊢
  refine (run_at HCC.out _ HR6.out HI6.out HT6.out).mono ?_
  rintro e w7 ⟨rfl, hb⟩
  have BK7 := Lib.hid (blk_below BK6.out hb)
  have HR7 := Lib.hid (Kd.C_below HR6.out hb)
  have HI7 := Lib.hid (Kd.C_below HI6.out hb)
  have HT7 := Lib.hid (HT6.out.below hb)
  have HB7 := Lib.hid (below_step HB6.out hb)
  have KA7 := Lib.hid (blk_below KA6.out hb)
  clear KA6
  have KB7 := Lib.hid (blk_below KB6.out hb)
  clear KB6
  clear hb BK6 HR6 HI6 HT6 HB6
  have bel := below_allocs w7 (.cells #[.int .i64 c0, .int .i64 c1, .int .i64 c2, .int .i64 c3] 44)
  have lA := blk_lt KA7.out
  have lB := blk_lt KB7.out
  have KC8 := Lib.hid (blk_new w7 (.cells #[.int .i64 c0, .int .i64 c1, .int .i64 c2, .int .i64 c3] 44))
  have KA8 := Lib.hid (blk_below KA7.out bel)
  have KB8 := Lib.hid (blk_below KB7.out bel)
  have HB8 := Lib.hid (below_step HB7.out bel)
  clear bel BK7 HR7 HI7 HT7 HB7 KA7 KB7
  rcases HW.out with ⟨rfl, rfl, rfl, rfl, rfl, rfl, rfl, rfl⟩ | ⟨rfl, rfl, rfl, rfl, rfl, rfl, rfl, rfl, rfl, rfl, rfl, rfl⟩ | ⟨rfl, rfl, rfl, rfl, rfl, rfl, rfl, h0, h1, h2, h3, rfl, rfl, rfl, rfl⟩
  · clear HW HA HBB HCC HF
    go_wp2_with fail
    generalize w7.alloc (.cells #[.int .i64 c0, .int .i64 c1, .int .i64 c2, .int .i64 c3] 44) = W8 at KA8 KB8 KC8 HB8 ⊢
    generalize w7.heap.size = NC at KC8 ⊢
    go_loopg [16] 4 (fun g v16 wx => ∃ cc : Nat, cc + g = 4 ∧ v16 = .int .i64 cc ∧ Hid (∃ m, wx = W8.drewN m))
    case atStart => exact ⟨0, rfl, rfl, Lib.hid ⟨0, rfl⟩⟩
    case round =>
      obtain ⟨cc, hcg, rfl, HW8⟩ := hrel
      obtain ⟨mm, rfl⟩ := HW8.out
      clear HW8
      cases gk with
      | zero =>
        obtain rfl : cc = 4 := by omega
        go_wp2_with fail
        go_ret
        exact ⟨rfl, bdr HB8.out _⟩
      | succ g =>
        have hcs : cc = 0 ∨ cc = 1 ∨ cc = 2 ∨ cc = 3 := by omega
        rcases hcs with rfl | rfl | rfl | rfl
        · have ca := blk_cell KA8.out 0
          have cb := blk_cell KB8.out 0
          have cz := blk_cell KC8.out 0
          go_wp2_with fail
          go_quiet (fail)
          go_wp2_with fail
          go_roundg g
          case measure => omega
          case rel => exact ⟨1, by omega, by go_num, Lib.hid ⟨_, rfl⟩⟩
        · have ca := blk_cell KA8.out 1
          have cb := blk_cell KB8.out 1
          have cz := blk_cell KC8.out 1
          go_wp2_with fail
          go_quiet (fail)
          go_wp2_with fail
          go_roundg g
          case measure => omega
          case rel => exact ⟨2, by omega, by go_num, Lib.hid ⟨_, rfl⟩⟩
        · have ca := blk_cell KA8.out 2
          have cb := blk_cell KB8.out 2
          have cz := blk_cell KC8.out 2
          go_wp2_with fail
          go_quiet (fail)
          go_wp2_with fail
          go_roundg g
          case measure => omega
          case rel => exact ⟨3, by omega, by go_num, Lib.hid ⟨_, rfl⟩⟩
        · have ca := blk_cell KA8.out 3
          have cb := blk_cell KB8.out 3
          have cz := blk_cell KC8.out 3
          go_wp2_with fail
          go_quiet (fail)
          go_wp2_with fail
          go_roundg g
          case measure => omega
          case rel => exact ⟨4, by omega, by go_num, Lib.hid ⟨_, rfl⟩⟩
  · clear HW HA HBB HCC HF
    go_wp2_with fail
    generalize w7.alloc (.cells #[.int .i64 2, .int .i64 2, .int .i64 2, .int .i64 2] 44) = W8 at KA8 KB8 KC8 HB8 ⊢
    generalize w7.heap.size = NC at KC8 ⊢
    go_loopg [16] 4 (fun g v16 wx => ∃ cc : Nat, cc + g = 4 ∧ v16 = .int .i64 cc ∧ Hid (∃ m, wx = W8.drewN m))
    case atStart => exact ⟨0, rfl, rfl, Lib.hid ⟨0, rfl⟩⟩
    case round =>
      obtain ⟨cc, hcg, rfl, HW8⟩ := hrel
      obtain ⟨mm, rfl⟩ := HW8.out
      clear HW8
      cases gk with
      | zero =>
        obtain rfl : cc = 4 := by omega
        go_wp2_with fail
        go_ret
        exact ⟨rfl, bdr HB8.out _⟩
      | succ g =>
        have hcs : cc = 0 ∨ cc = 1 ∨ cc = 2 ∨ cc = 3 := by omega
        rcases hcs with rfl | rfl | rfl | rfl
        · have ca := blk_cell KA8.out 0
          have cb := blk_cell KB8.out 0
          have cz := blk_cell KC8.out 0
          go_wp2_with fail
          go_quiet (fail)
          go_wp2_with fail
          go_roundg g
          case measure => omega
          case rel => exact ⟨1, by omega, by go_num, Lib.hid ⟨_, rfl⟩⟩
        · have ca := blk_cell KA8.out 1
          have cb := blk_cell KB8.out 1
          have cz := blk_cell KC8.out 1
          go_wp2_with fail
          go_quiet (fail)
          go_wp2_with fail
          go_roundg g
          case measure => omega
          case rel => exact ⟨2, by omega, by go_num, Lib.hid ⟨_, rfl⟩⟩
        · have ca := blk_cell KA8.out 2
          have cb := blk_cell KB8.out 2
          have cz := blk_cell KC8.out 2
          go_wp2_with fail
          go_quiet (fail)
          go_wp2_with fail
          go_roundg g
          case measure => omega
          case rel => exact ⟨3, by omega, by go_num, Lib.hid ⟨_, rfl⟩⟩
        · have ca := blk_cell KA8.out 3
          have cb := blk_cell KB8.out 3
          have cz := blk_cell KC8.out 3
          go_wp2_with fail
          go_quiet (fail)
          go_wp2_with fail
          go_roundg g
          case measure => omega
          case rel => exact ⟨4, by omega, by go_num, Lib.hid ⟨_, rfl⟩⟩
  · have B0 := Lib.hid h0
    have B1 := Lib.hid h1
    have B2 := Lib.hid h2
    have B3 := Lib.hid h3
    clear HW HA HBB HCC HF h0 h1 h2 h3
    go_wp2_with fail
    generalize w7.alloc (.cells #[.int .i64 2, .int .i64 2, .int .i64 2, .int .i64 2] 44) = W8 at KA8 KB8 KC8 HB8 ⊢
    generalize w7.heap.size = NC at KC8 ⊢
    go_loopg [16] 4 (fun g v16 wx => ∃ cc : Nat, cc + g = 4 ∧ v16 = .int .i64 cc ∧ Hid (∃ m, wx = W8.drewN m))
    case atStart => exact ⟨0, rfl, rfl, Lib.hid ⟨0, rfl⟩⟩
    case round =>
      obtain ⟨cc, hcg, rfl, HW8⟩ := hrel
      obtain ⟨mm, rfl⟩ := HW8.out
      clear HW8
      cases gk with
      | zero =>
        obtain rfl : cc = 4 := by omega
        go_wp2_with fail
        go_ret
        exact ⟨rfl, bdr HB8.out _⟩
      | succ g =>
        have hcs : cc = 0 ∨ cc = 1 ∨ cc = 2 ∨ cc = 3 := by omega
        rcases hcs with rfl | rfl | rfl | rfl
        · have ca := blk_cell KA8.out 0
          have cb := blk_cell KB8.out 0
          have cz := blk_cell KC8.out 0
          rcases B0.out with rfl | rfl
          all_goals
            go_wp2_with fail
            go_quiet (fail)
            go_wp2_with fail
            go_roundg g
            case measure => omega
            case rel => exact ⟨1, by omega, by go_num, Lib.hid ⟨_, rfl⟩⟩
        · have ca := blk_cell KA8.out 1
          have cb := blk_cell KB8.out 1
          have cz := blk_cell KC8.out 1
          rcases B1.out with rfl | rfl
          all_goals
            go_wp2_with fail
            go_quiet (fail)
            go_wp2_with fail
            go_roundg g
            case measure => omega
            case rel => exact ⟨2, by omega, by go_num, Lib.hid ⟨_, rfl⟩⟩
        · have ca := blk_cell KA8.out 2
          have cb := blk_cell KB8.out 2
          have cz := blk_cell KC8.out 2
          rcases B2.out with rfl | rfl
          all_goals
            go_wp2_with fail
            go_quiet (fail)
            go_wp2_with fail
            go_roundg g
            case measure => omega
            case rel => exact ⟨3, by omega, by go_num, Lib.hid ⟨_, rfl⟩⟩
        · have ca := blk_cell KA8.out 3
          have cb := blk_cell KB8.out 3
          have cz := blk_cell KC8.out 3
          rcases B3.out with rfl | rfl
          all_goals
            go_wp2_with fail
            go_quiet (fail)
            go_wp2_with fail
            go_roundg g
            case measure => omega
            case rel => exact ⟨4, by omega, by go_num, Lib.hid ⟨_, rfl⟩⟩
end Go.Proofs.YtamabdijeklgjaaDoor.Ext
