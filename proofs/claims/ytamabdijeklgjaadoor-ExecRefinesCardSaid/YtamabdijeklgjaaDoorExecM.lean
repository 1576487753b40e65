/- The law ExecRefines, walked. -/
import Derived.Test.YtamabdijeklgjaaDoorGm
import Derived.Test.YtamabdijeklgjaaDoorL5
namespace Go.Proofs.YtamabdijeklgjaaDoor.Ext
open Go Go.Proofs Go.RowKit Go.Proofs.YtamabdijeklgjaaDoorW.PrintWords Go.Proofs.YtamabdijeklgjaaDoorW.PrintMore
attribute [local go_sem] max2_int min2_int max_two min_two
set_option linter.unusedVariables false
set_option linter.unusedSimpArgs false

theorem takes_f {k : Int} (h : isOp k = true) : L.observatoryref33_Takes.f k = some (decide (8 ≤ k)) := by
  rcases isOp_cases h with rfl | rfl | rfl | rfl | rfl | rfl | rfl | rfl | rfl | rfl <;> decide
theorem cost_loop (n : ByteArray) (v : Int) (l : List FS) (hl : l.length ≤ 50) (hop : ∀ (i : Nat) (x : FS), l[i]? = some x → isOp x.f0 = true) : ∀ (k i : Nat) (acc : Int), i ≤ l.length → l.length < i + k → 0 ≤ acc → acc ≤ 4 * i → L.observatoryref34_Cost.l0 k acc (i : Int) n v l = some (acc + costE (l.drop i))
  | 0, i, acc, h1, h2, _, _ => by omega
  | k + 1, i, acc, h1, h2, h3, h4 => by
    rw [L.observatoryref34_Cost.l0]
    by_cases hi : (i : Int) < (l.length : Int)
    · obtain ⟨s, hs⟩ : ∃ s, l[i]? = some s := ⟨_, List.getElem?_eq_getElem (by omega)⟩
      have hrd : L.rd_T32 l (i : Int) = s := by
        unfold L.rd_T32
        rw [Int.toNat_natCast, List.getD_eq_getElem?_getD, hs]
        rfl
      have hd : costE (l.drop i) = costs s + costE (l.drop (i + 1)) := by
        rw [drop_cons hs]
        simp [costE]
      rw [if_pos hi, if_pos (by omega), hrd, takes_f (hop i s hs), Option.bind_some, hd, wrap_nat (show 0 ≤ (i : Int) + 1 by omega) (by omega)]
      by_cases h8 : 8 ≤ s.f0
      · rw [if_pos (decide_eq_true h8)]
        have := cost_loop n v l hl hop k (i + 1) acc (by omega) (by omega) h3 (by omega)
        rw [show ((i : Int) + 1) = ((i + 1 : Nat) : Int) by omega, this]
        unfold costs
        rw [if_pos h8]
        congr 1
        omega
      · rw [if_neg (by simpa using h8), wrap_nat (show 0 ≤ acc + 4 by omega) (by omega)]
        have := cost_loop n v l hl hop k (i + 1) (acc + 4) (by omega) (by omega) (by omega) (by omega)
        rw [show ((i : Int) + 1) = ((i + 1 : Nat) : Int) by omega, this]
        unfold costs
        rw [if_neg h8]
        congr 1
        omega
    · rw [if_neg hi, List.drop_eq_nil_of_le (by omega)]
      simp [costE]
theorem cost_f (n : ByteArray) (v : Int) (l : List FS) (hv : validB n.data.toList v l = true) : L.observatoryref34_Cost.f 100 n v l = some (costE l : Int) := by
  obtain ⟨_, _, _, _, hl40, MS, hMS, _⟩ := valid_parts hv
  have := cost_loop n v l (by omega) (fun i x hx => by
    obtain ⟨ms, m, _, hs⟩ := masks_at l [] MS i x hMS hx
    exact (stepM_args hs).1) 100 0 0 (by omega) (by omega) (by omega) (by omega)
  unfold L.observatoryref34_Cost.f
  rw [show (0 : Int) = ((0 : Nat) : Int) from rfl] at *
  rw [this]
  simp
theorem min_ite (x y : Int) : min x y = if y < x then y else x := by split <;> omega
set_option maxRecDepth 100000 in
set_option maxHeartbeats 8000000 in
theorem refines_walk (name : ByteArray) (ver : Int) (A IA : Option Addr) (c ci : Nat) (l ins : List FS) (one two : Int) (w : World) (hr : Kd.C L.k32 w A l.length l) (hc : l.length ≤ c) (hI : Kd.C L.k32 w IA ins.length ins) (hT : LogicTab w) (ho0 : 0 ≤ one) (ho1 : one ≤ 255) (ht0 : 0 ≤ two) (ht1 : two ≤ 255) :
    Calls Tryd.prog 6 #[.agg #[.string name, .int .i64 ver, .slice A l.length c], .slice IA ins.length ci, .int .u8 one, .int .u8 two] w fun e w' => e = .returned (.bool true) ∧ Below w.heap.size w w' := by
  have hB := below_allocs w (.cells #[.string name, .int .i64 ver, .slice A l.length c] 24)
  have BK := Lib.hid (blk_new w (.cells #[.string name, .int .i64 ver, .slice A l.length c] 24))
  have HR := Lib.hid (Kd.C_below hr hB)
  have HI := Lib.hid (Kd.C_below hI hB)
  have HT := Lib.hid (hT.below hB)
  have HC := Lib.hid hc
  have HB := Lib.hid hB
  obtain ⟨few, hfew⟩ : ∃ q, ((decide (l.length ≤ 50) && decide (name.size ≤ 60)) && decide (ins.length ≤ 6)) = q := ⟨_, rfl⟩
  have HF := Lib.hid hfew
  obtain ⟨le, hle⟩ : ∃ x : Int, (if two < one then two else one) = x := ⟨_, rfl⟩
  obtain ⟨mo, hmo⟩ : ∃ x : Int, (if one < two then two else one) = x := ⟨_, rfl⟩
  have hle0 : 0 ≤ le ∧ le ≤ mo ∧ mo ≤ 255 := by
    rw [← hle, ← hmo]
    split <;> split <;> omega
  obtain ⟨a0, a1, a2, a3, u1, e1, c0, c1, c2, c3, u2, e2, HA, HCC, HW⟩ := refines_letters name.data.toList ver l ins.length (pixI ins) le mo hle0.1 hle0.2.1
  have HLE := Lib.hid hle
  have HMO := Lib.hid hmo
  obtain ⟨hle1, hle2, hle3⟩ := hle0
  clear hr hI hT hc hB hfew hle hmo
  go_enter Tryd.func6, Tryd.ntmps6
  go_wp2_with fail
  refine (head34_calls _ HT.out).mono ?_
  rintro e w1 ⟨rfl, hb⟩
  have BK1 := Lib.hid (blk_below BK.out hb)
  have HR1 := Lib.hid (Kd.C_below HR.out hb)
  have HI1 := Lib.hid (Kd.C_below HI.out hb)
  have HT1 := Lib.hid (HT.out.below hb)
  have HB1 := Lib.hid (below_step HB.out hb)
  clear hb BK HR HI HT HB
  have f0 := blk_cell BK1.out 0
  have f1 := blk_cell BK1.out 1
  have f2 := blk_cell BK1.out 2
  go_wp2_with fail
  refine (few34_calls name ver A IA c ci ins.length l _ HR1.out HC.out).mono ?_
  rintro e w2 ⟨rfl, hb⟩
  have BK2 := Lib.hid (blk_below BK1.out hb)
  have HR2 := Lib.hid (Kd.C_below HR1.out hb)
  have HI2 := Lib.hid (Kd.C_below HI1.out hb)
  have HT2 := Lib.hid (HT1.out.below hb)
  have HB2 := Lib.hid (below_step HB1.out hb)
  clear hb BK1 HR1 HI1 HT1 HB1
  rw [HF.out]
  clear f0 f1 f2
  have f0 := blk_cell BK2.out 0
  have f1 := blk_cell BK2.out 1
  have f2 := blk_cell BK2.out 2
  cases few with
  | false =>
    go_wp2_with fail
    go_ret
    exact ⟨rfl, HB2.out⟩
  | true =>
  have hl50 : l.length ≤ 50 := by
    have := HF.out
    simp only [Bool.and_eq_true, decide_eq_true_eq] at this
    exact this.1.1
  have hle := HLE.out
  have hmo := HMO.out
  go_wp2_with fail
  clear hle hmo
  refine (run_at HA.out _ HR2.out HI2.out HT2.out).mono ?_
  rintro e w3 ⟨rfl, hb⟩
  have BK3 := Lib.hid (blk_below BK2.out hb)
  have HR3 := Lib.hid (Kd.C_below HR2.out hb)
  have HI3 := Lib.hid (Kd.C_below HI2.out hb)
  have HT3 := Lib.hid (HT2.out.below hb)
  have HB3 := Lib.hid (below_step HB2.out hb)
  clear hb BK2 HR2 HI2 HT2 HB2
  clear f0 f1 f2
  have f0 := blk_cell BK3.out 0
  have f1 := blk_cell BK3.out 1
  have f2 := blk_cell BK3.out 2
  have lF := blk_lt BK3.out
  go_wp2_with fail
  clear lF f0 f1 f2
  have bel := below_allocs w3 (.cells #[.int .i64 a0, .int .i64 a1, .int .i64 a2, .int .i64 a3] 44)
  have KA4 := Lib.hid (blk_new w3 (.cells #[.int .i64 a0, .int .i64 a1, .int .i64 a2, .int .i64 a3] 44))
  have BK4 := Lib.hid (blk_below BK3.out bel)
  have HR4 := Lib.hid (Kd.C_below HR3.out bel)
  have HI4 := Lib.hid (Kd.C_below HI3.out bel)
  have HT4 := Lib.hid (HT3.out.below bel)
  have HB4 := Lib.hid (below_step HB3.out bel)
  clear bel BK3 HR3 HI3 HT3 HB3 
  generalize w3.alloc (.cells #[.int .i64 a0, .int .i64 a1, .int .i64 a2, .int .i64 a3] 44) = W4 at BK4 HR4 HI4 HT4 HB4 KA4 ⊢
  generalize w3.heap.size = NA at KA4 ⊢
  refine (run_at HCC.out _ HR4.out HI4.out HT4.out).mono ?_
  rintro e w5 ⟨rfl, hb⟩
  have BK5 := Lib.hid (blk_below BK4.out hb)
  have HR5 := Lib.hid (Kd.C_below HR4.out hb)
  have HI5 := Lib.hid (Kd.C_below HI4.out hb)
  have HT5 := Lib.hid (HT4.out.below hb)
  have HB5 := Lib.hid (below_step HB4.out hb)
  have KA5 := Lib.hid (blk_below KA4.out hb)
  clear KA4
  clear hb BK4 HR4 HI4 HT4 HB4
  have f0 := blk_cell BK5.out 0
  have f1 := blk_cell BK5.out 1
  have f2 := blk_cell BK5.out 2
  have bel := below_allocs w5 (.cells #[.int .i64 c0, .int .i64 c1, .int .i64 c2, .int .i64 c3] 44)
  have lF := blk_lt BK5.out
  have lA := blk_lt KA5.out
  have KC8 := Lib.hid (blk_new w5 (.cells #[.int .i64 c0, .int .i64 c1, .int .i64 c2, .int .i64 c3] 44))
  have KA8 := Lib.hid (blk_below KA5.out bel)
  have BK8 := Lib.hid (blk_below BK5.out bel)
  have HR8 := Lib.hid (Kd.C_below HR5.out bel)
  have HB8 := Lib.hid (below_step HB5.out bel)
  clear bel BK5 HR5 HI5 HT5 HB5 KA5
  rcases HW.out with ⟨rfl, rfl⟩ | rfl | ⟨rfl, rfl, hv, h0, h1, h2, h3, hu1, hu2⟩
  · clear HW HA HCC HF HLE HMO
    go_wp2_with fail
    go_ret
    exact ⟨rfl, HB8.out⟩
  · clear HW HA HCC HF HLE HMO
    go_wp2_with fail
    go_ret
    exact ⟨rfl, HB8.out⟩
  · have B0 := Lib.hid h0
    have B1 := Lib.hid h1
    have B2 := Lib.hid h2
    have B3 := Lib.hid h3
    have HV := Lib.hid hv
    have HU1 := Lib.hid hu1
    have HU2 := Lib.hid hu2
    clear HW HA HCC HF HLE HMO hv h0 h1 h2 h3 hu1 hu2
    go_wp2_with fail
    clear f0 f1 f2 lF
    generalize w5.alloc (.cells #[.int .i64 c0, .int .i64 c1, .int .i64 c2, .int .i64 c3] 44) = W8 at KA8 KC8 BK8 HR8 HB8 ⊢
    generalize w5.heap.size = NC at KC8 ⊢
    go_loopg [18] 4 (fun g v18 wx => ∃ cc : Nat, cc + g = 4 ∧ v18 = .int .i64 cc ∧ Hid (∃ m, wx = W8.drewN m))
    case atStart => exact ⟨0, rfl, rfl, Lib.hid ⟨0, rfl⟩⟩
    case round =>
      obtain ⟨cc, hcg, rfl, HW8⟩ := hrel
      obtain ⟨mm, rfl⟩ := HW8.out
      clear HW8
      cases gk with
      | zero =>
        obtain rfl : cc = 4 := by omega
        have f0 := blk_cell BK8.out 0
        have f1 := blk_cell BK8.out 1
        have f2 := blk_cell BK8.out 2
        obtain ⟨K, hK⟩ : ∃ K : Int, (costE l : Int) = K := ⟨_, rfl⟩
        have HCOST := Lib.hid (L.observatoryref34_Cost.calls 100 name ver A c l _ (W8.drewN mm) (Kd.C_drewN HR8.out mm) HC.out (cost_f name ver l HV.out))
        rw [hK] at HCOST HU1 HU2
        obtain ⟨m1, hm1⟩ : ∃ x : Int, (if K < le then K else le) = x := ⟨_, rfl⟩
        obtain ⟨m2, hm2⟩ : ∃ x : Int, (if K < mo then K else mo) = x := ⟨_, rfl⟩
        have hq1 : u1 = m1 := by rw [HU1.out, min_ite, hm1]
        have hq2 : u2 = m2 := by rw [HU2.out, min_ite, hm2]
        subst hq1
        subst hq2
        have HM1 := Lib.hid hm1
        have HM2 := Lib.hid hm2
        clear hm1 hm2 hK HU1 HU2
        go_wp2_with fail
        refine HCOST.out.mono ?_
        rintro e w9 ⟨rfl, hb⟩
        have HB9 := Lib.hid (below_step (bdr HB8.out mm) hb)
        have hm1 := HM1.out
        have hm2 := HM2.out
        have hz1 : (u1 == u1) = true := by simp
        have hz2 : (u2 == u2) = true := by simp
        clear hb
        go_wp2_with fail
        go_ret
        exact ⟨rfl, HB9.out⟩
      | succ g =>
        have hcs : cc = 0 ∨ cc = 1 ∨ cc = 2 ∨ cc = 3 := by omega
        rcases hcs with rfl | rfl | rfl | rfl
        · have ca := blk_cell KA8.out 0
          have cz := blk_cell KC8.out 0
          rcases B0.out with rfl | ⟨rfl, n1, n2⟩
          all_goals
            go_wp2_with fail
            go_quiet (fail)
            go_wp2_with fail
            go_roundg g
            case measure => omega
            case rel => exact ⟨1, by omega, by go_num, Lib.hid ⟨_, rfl⟩⟩
        · have ca := blk_cell KA8.out 1
          have cz := blk_cell KC8.out 1
          rcases B1.out with rfl | ⟨rfl, n1, n2⟩
          all_goals
            go_wp2_with fail
            go_quiet (fail)
            go_wp2_with fail
            go_roundg g
            case measure => omega
            case rel => exact ⟨2, by omega, by go_num, Lib.hid ⟨_, rfl⟩⟩
        · have ca := blk_cell KA8.out 2
          have cz := blk_cell KC8.out 2
          rcases B2.out with rfl | ⟨rfl, n1, n2⟩
          all_goals
            go_wp2_with fail
            go_quiet (fail)
            go_wp2_with fail
            go_roundg g
            case measure => omega
            case rel => exact ⟨3, by omega, by go_num, Lib.hid ⟨_, rfl⟩⟩
        · have ca := blk_cell KA8.out 3
          have cz := blk_cell KC8.out 3
          rcases B3.out with rfl | ⟨rfl, n1, n2⟩
          all_goals
            go_wp2_with fail
            go_quiet (fail)
            go_wp2_with fail
            go_roundg g
            case measure => omega
            case rel => exact ⟨4, by omega, by go_num, Lib.hid ⟨_, rfl⟩⟩
end Go.Proofs.YtamabdijeklgjaaDoor.Ext
