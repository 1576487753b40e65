/- The law ExecCells, walked. -/
import Derived.Test.YtamabdijeklgjaaDoorGm
namespace Go.Proofs.YtamabdijeklgjaaDoor.Ext
open Go Go.Proofs Go.RowKit Go.Proofs.YtamabdijeklgjaaDoorW.PrintWords
set_option linter.unusedVariables false
set_option linter.unusedSimpArgs false

theorem full_four (n : List UInt8) (v : Int) (l : List FS) (ni : Nat) (I : List Int) : ∃ (b0 b1 b2 b3 : Bool) (e : Int), Hid (fullE n v l ni I = ([b0, b1, b2, b3], e)) := by
  obtain ⟨x0, x1, x2, x3, u, e, h⟩ := run_four n v l ni I (4 * (l.length : Int)) (by omega)
  have hf := full_of h
  by_cases he : e = 0
  · rw [if_pos he] at hf
    exact ⟨_, _, _, _, _, Lib.hid hf⟩
  · rw [if_neg he] at hf
    exact ⟨_, _, _, _, _, Lib.hid hf⟩
/-- the first k numbers of a cell agree -/
def sameB (I O : List Int) (c : Nat) : Nat → Bool
  | 0 => true
  | k + 1 => sameB I O c k && (I.getD (k * 4 + c) 0 == O.getD (k * 4 + c) 0)
theorem sameB_at {I O : List Int} {c : Nat} : ∀ {k : Nat}, sameB I O c k = true → ∀ j, j < k → I.getD (j * 4 + c) 0 = O.getD (j * 4 + c) 0
  | 0, _, j, hj => by omega
  | k + 1, h, j, hj => by
    rw [sameB, Bool.and_eq_true] at h
    by_cases hjk : j = k
    · subst hjk
      exact eq_of_beq h.2
    · exact sameB_at h.1 j (by omega)
theorem pix_cell {w : World} {b o : Nat} {l : List FS} (h : StepsAt w b o l) (hl : l.length = 4) (i c : Nat) (hi : i < 4) (hc : c < 4) : w.cell? ⟨b, o + i * 4 + c, none⟩ = some (.int .i64 ((pixI l).getD (i * 4 + c) 0)) := by
  have hk : i * 4 + c < (pixI l).length := by rw [pixI_len, hl]; omega
  have := pix_cells h (i * 4 + c) _ (List.getElem?_eq_getElem hk)
  rw [show o + i * 4 + c = o + (i * 4 + c) by omega, this, List.getD_eq_getElem?_getD, List.getElem?_eq_getElem hk]
  rfl
theorem bool_cell {w : World} {b : Nat} {t : TypeId} {a0 a1 a2 a3 : Bool} (h : w.heap[b]? = some (.cells #[.bool a0, .bool a1, .bool a2, .bool a3] t (0, 0))) (c : Nat) (hc : c < 4) : w.cell? ⟨b, c, none⟩ = some (.bool ([a0, a1, a2, a3].getD c false)) := by
  have hcs : c = 0 ∨ c = 1 ∨ c = 2 ∨ c = 3 := by omega
  rcases hcs with rfl | rfl | rfl | rfl
  · exact blk_cell h 0
  · exact blk_cell h 1
  · exact blk_cell h 2
  · exact blk_cell h 3
set_option maxRecDepth 100000 in
set_option maxHeartbeats 8000000 in
theorem cells_walk (name : ByteArray) (ver : Int) (A IA OA : Option Addr) (c ci co : Nat) (l ins oth : List FS) (w : World) (hr : Kd.C L.k32 w A l.length l) (hc : l.length ≤ c) (hI : Kd.C L.k32 w IA ins.length ins) (hO : Kd.C L.k32 w OA oth.length oth) (hT : LogicTab w) :
    Calls Tryd.prog 8 #[.agg #[.string name, .int .i64 ver, .slice A l.length c], .slice IA ins.length ci, .slice OA oth.length co] w fun e w' => e = .returned (.bool true) ∧ Below w.heap.size w w' := by
  have hB := below_allocs w (.cells #[.string name, .int .i64 ver, .slice A l.length c] 24)
  have BK := Lib.hid (blk_new w (.cells #[.string name, .int .i64 ver, .slice A l.length c] 24))
  have HR := Lib.hid (Kd.C_below hr hB)
  have HI := Lib.hid (Kd.C_below hI hB)
  have HO := Lib.hid (Kd.C_below hO hB)
  have HT := Lib.hid (hT.below hB)
  have HC := Lib.hid hc
  have HB := Lib.hid hB
  obtain ⟨few, hfew⟩ : ∃ q, ((decide (l.length ≤ 50) && decide (name.size ≤ 60)) && decide (ins.length ≤ 6)) = q := ⟨_, rfl⟩
  have HF := Lib.hid hfew
  obtain ⟨few2, hfew2⟩ : ∃ q, ((decide (l.length ≤ 50) && decide (name.size ≤ 60)) && decide (oth.length ≤ 6)) = q := ⟨_, rfl⟩
  have HF2 := Lib.hid hfew2
  obtain ⟨a0, a1, a2, a3, e1, HA⟩ := full_four name.data.toList ver l ins.length (pixI ins)
  obtain ⟨b0, b1, b2, b3, e2, HBB⟩ := full_four name.data.toList ver l oth.length (pixI oth)
  clear hr hI hO hT hc hB hfew hfew2
  go_enter Tryd.func8, Tryd.ntmps8
  go_wp2_with fail
  refine (head34_calls _ HT.out).mono ?_
  rintro e w1 ⟨rfl, hb⟩
  have BK1 := Lib.hid (blk_below BK.out hb)
  have HR1 := Lib.hid (Kd.C_below HR.out hb)
  have HI1 := Lib.hid (Kd.C_below HI.out hb)
  have HO1 := Lib.hid (Kd.C_below HO.out hb)
  have HT1 := Lib.hid (HT.out.below hb)
  have HB1 := Lib.hid (below_step HB.out hb)
  clear hb BK HR HI HO HT HB
  have f0 := blk_cell BK1.out 0
  have f1 := blk_cell BK1.out 1
  have f2 := blk_cell BK1.out 2
  go_wp2_with fail
  refine (few34_calls name ver A IA c ci ins.length l _ HR1.out HC.out).mono ?_
  rintro e w2 ⟨rfl, hb⟩
  have BK2 := Lib.hid (blk_below BK1.out hb)
  have HR2 := Lib.hid (Kd.C_below HR1.out hb)
  have HI2 := Lib.hid (Kd.C_below HI1.out hb)
  have HO2 := Lib.hid (Kd.C_below HO1.out hb)
  have HT2 := Lib.hid (HT1.out.below hb)
  have HB2 := Lib.hid (below_step HB1.out hb)
  clear hb BK1 HR1 HI1 HO1 HT1 HB1
  rw [HF.out]
  clear f0 f1 f2
  have f0 := blk_cell BK2.out 0
  have f1 := blk_cell BK2.out 1
  have f2 := blk_cell BK2.out 2
  cases few with
  | false =>
    go_wp2_with fail
    go_ret
    exact ⟨rfl, HB2.out⟩
  | true =>
  have hl50 : l.length ≤ 50 := by
    have := HF.out
    simp only [Bool.and_eq_true, decide_eq_true_eq] at this
    exact this.1.1
  go_wp2_with fail
  refine (few34_calls name ver A OA c co oth.length l _ HR2.out HC.out).mono ?_
  rintro e w3 ⟨rfl, hb⟩
  have BK3 := Lib.hid (blk_below BK2.out hb)
  have HR3 := Lib.hid (Kd.C_below HR2.out hb)
  have HI3 := Lib.hid (Kd.C_below HI2.out hb)
  have HO3 := Lib.hid (Kd.C_below HO2.out hb)
  have HT3 := Lib.hid (HT2.out.below hb)
  have HB3 := Lib.hid (below_step HB2.out hb)
  clear hb BK2 HR2 HI2 HO2 HT2 HB2
  rw [HF2.out]
  clear f0 f1 f2
  have f0 := blk_cell BK3.out 0
  have f1 := blk_cell BK3.out 1
  have f2 := blk_cell BK3.out 2
  cases few2 with
  | false =>
    go_wp2_with fail
    go_ret
    exact ⟨rfl, HB3.out⟩
  | true =>
  go_wp2_with fail
  refine (full_at HA.out _ HR3.out HI3.out HT3.out (by omega)).mono ?_
  rintro e w4 ⟨rfl, hb⟩
  have BK4 := Lib.hid (blk_below BK3.out hb)
  have HR4 := Lib.hid (Kd.C_below HR3.out hb)
  have HI4 := Lib.hid (Kd.C_below HI3.out hb)
  have HO4 := Lib.hid (Kd.C_below HO3.out hb)
  have HT4 := Lib.hid (HT3.out.below hb)
  have HB4 := Lib.hid (below_step HB3.out hb)
  clear hb BK3 HR3 HI3 HO3 HT3 HB3
  clear f0 f1 f2
  have f0 := blk_cell BK4.out 0
  have f1 := blk_cell BK4.out 1
  have f2 := blk_cell BK4.out 2
  have lF := blk_lt BK4.out
  go_wp2_with fail
  clear lF f0 f1 f2
  have bel := below_allocs w4 (.cells #[.bool a0, .bool a1, .bool a2, .bool a3] 48)
  have KA5 := Lib.hid (blk_new w4 (.cells #[.bool a0, .bool a1, .bool a2, .bool a3] 48))
  have BK5 := Lib.hid (blk_below BK4.out bel)
  have HR5 := Lib.hid (Kd.C_below HR4.out bel)
  have HI5 := Lib.hid (Kd.C_below HI4.out bel)
  have HO5 := Lib.hid (Kd.C_below HO4.out bel)
  have HT5 := Lib.hid (HT4.out.below bel)
  have HB5 := Lib.hid (below_step HB4.out bel)
  clear bel BK4 HR4 HI4 HO4 HT4 HB4 
  generalize w4.alloc (.cells #[.bool a0, .bool a1, .bool a2, .bool a3] 48) = W5 at BK5 HR5 HI5 HO5 HT5 HB5 KA5 ⊢
  generalize w4.heap.size = NA at KA5 ⊢
  have f0 := blk_cell BK5.out 0
  have f1 := blk_cell BK5.out 1
  have f2 := blk_cell BK5.out 2
  go_wp2_with fail
  refine (full_at HBB.out _ HR5.out HO5.out HT5.out (by omega)).mono ?_
  rintro e w6 ⟨rfl, hb⟩
  have BK6 := Lib.hid (blk_below BK5.out hb)
  have HR6 := Lib.hid (Kd.C_below HR5.out hb)
  have HI6 := Lib.hid (Kd.C_below HI5.out hb)
  have HO6 := Lib.hid (Kd.C_below HO5.out hb)
  have HT6 := Lib.hid (HT5.out.below hb)
  have HB6 := Lib.hid (below_step HB5.out hb)
  have KA6 := Lib.hid (blk_below KA5.out hb)
  clear KA5
  clear hb BK5 HR5 HI5 HO5 HT5 HB5
  clear f0 f1 f2
  have bel := below_allocs w6 (.cells #[.bool b0, .bool b1, .bool b2, .bool b3] 48)
  have lA := blk_lt KA6.out
  have KB8 := Lib.hid (blk_new w6 (.cells #[.bool b0, .bool b1, .bool b2, .bool b3] 48))
  have KA8 := Lib.hid (blk_below KA6.out bel)
  have HI8 := Lib.hid (Kd.C_below HI6.out bel)
  have HO8 := Lib.hid (Kd.C_below HO6.out bel)
  have HB8 := Lib.hid (below_step HB6.out bel)
  clear bel BK6 HR6 HI6 HO6 HT6 HB6 KA6 HF HF2
  by_cases h1 : 0 = e1
  · by_cases h2 : 0 = e2
    · subst h1
      subst h2
      obtain ⟨hi4, ho4, hcell⟩ := cells_case _ _ _ _ _ _ _ HA.out HBB.out
      have HL := Lib.hid hcell
      have HI4 := Lib.hid hi4
      have HO4 := Lib.hid ho4
      rw [hi4, ho4]
      obtain ⟨bi, oi, rfl, hst⟩ := steps_view HI8.out (by intro e; rw [e] at hi4; simp at hi4)
      obtain ⟨bo, oo, rfl, hso⟩ := steps_view HO8.out (by intro e; rw [e] at ho4; simp at ho4)
      have HS := Lib.hid hst
      have HSO := Lib.hid hso
      clear hi4 ho4 hcell hst hso HI8 HO8 HA HBB
      go_wp2_with fail
      generalize w6.alloc (.cells #[.bool b0, .bool b1, .bool b2, .bool b3] 48) = W8 at KA8 KB8 HS HSO HB8 ⊢
      generalize w6.heap.size = NB at KB8 lA ⊢
      go_loopg [12] 4 (fun g v12 wx => ∃ cc : Nat, cc + g = 4 ∧ v12 = .int .i64 cc ∧ Hid (∃ m, wx = W8.drewN m))
      case atStart => exact ⟨0, rfl, rfl, Lib.hid ⟨0, rfl⟩⟩
      case round =>
        obtain ⟨cc, hcg, rfl, HW8⟩ := hrel
        obtain ⟨mm, rfl⟩ := HW8.out
        clear HW8
        cases gk with
        | zero =>
          obtain rfl : cc = 4 := by omega
          go_wp2_with fail
          go_ret
          exact ⟨rfl, bdr HB8.out _⟩
        | succ g =>
          have hcc : (cc : Int) < 4 := by omega
          go_wp2_with fail
          go_loopg [13, 14] 4 (fun g' v13 v14 wx => ∃ ii : Nat, ii + g' = 4 ∧ v13 = .bool (sameB (pixI ins) (pixI oth) cc ii) ∧ v14 = .int .i64 ii ∧ Hid (∃ m, wx = W8.drewN m))
          case atStart => exact ⟨0, rfl, rfl, rfl, Lib.hid ⟨_, rfl⟩⟩
          case round =>
            obtain ⟨ii, hig, rfl, rfl, HW9⟩ := hrel
            obtain ⟨mn, rfl⟩ := HW9.out
            clear HW9
            cases gk with
            | zero =>
              obtain rfl : ii = 4 := by omega
              have ca := bool_cell KA8.out cc (by omega)
              have cb := bool_cell KB8.out cc (by omega)
              obtain ⟨va, hva⟩ : ∃ x, [a0, a1, a2, a3].getD cc false = x := ⟨_, rfl⟩
              obtain ⟨vb, hvb⟩ : ∃ x, [b0, b1, b2, b3].getD cc false = x := ⟨_, rfl⟩
              rw [hva] at ca
              rw [hvb] at cb
              have hv : sameB (pixI ins) (pixI oth) cc 4 = true → va = vb := fun h => by
                have := HL.out cc (by omega) (sameB_at h)
                rw [← hva, ← hvb, List.getD_eq_getElem?_getD, List.getD_eq_getElem?_getD, this]
              generalize sameB (pixI ins) (pixI oth) cc 4 = sm at hv ⊢
              have hcc0 : (0 : Int) ≤ (cc : Int) := by omega
              cases sm with
              | false =>
                clear hv hva hvb
                go_wp2_with fail
                go_quiet (fail)
                go_wp2_with fail
                go_roundg g
                case measure => omega
                case rel => exact ⟨cc + 1, by omega, by go_num, Lib.hid ⟨_, rfl⟩⟩
              | true =>
                obtain rfl := hv rfl
                clear hv hva hvb
                have hne : (va != va) = false := by simp
                go_wp2_with fail
                go_quiet (fail)
                go_wp2_with fail
                go_roundg g
                case measure => omega
                case rel => exact ⟨cc + 1, by omega, by go_num, Lib.hid ⟨_, rfl⟩⟩
            | succ g' =>
              have hii : (ii : Int) < 4 := by omega
              have hii0 : (0 : Int) ≤ (ii : Int) := by omega
              have hcc0 : (0 : Int) ≤ (cc : Int) := by omega
              have ca := pix_cell HS.out HI4.out ii cc (by omega) (by omega)
              have cb := pix_cell HSO.out HO4.out ii cc (by omega) (by omega)
              obtain ⟨x, hx⟩ : ∃ x, (pixI ins).getD (ii * 4 + cc) 0 = x := ⟨_, rfl⟩
              obtain ⟨y, hy⟩ : ∃ y, (pixI oth).getD (ii * 4 + cc) 0 = y := ⟨_, rfl⟩
              rw [hx] at ca
              rw [hy] at cb
              obtain ⟨q, hq⟩ : ∃ q, (x == y) = q := ⟨_, rfl⟩
              have HNX : Hid (sameB (pixI ins) (pixI oth) cc (ii + 1) = (sameB (pixI ins) (pixI oth) cc ii && q)) := Lib.hid (by rw [sameB, hx, hy, hq])
              clear hx hy
              obtain ⟨sm, hsm⟩ : ∃ sm, sameB (pixI ins) (pixI oth) cc ii = sm := ⟨_, rfl⟩
              rw [hsm] at HNX ⊢
              clear hsm
              cases sm with
              | false =>
                go_wp2_with fail
                go_quiet (fail)
                go_wp2_with fail
                go_roundg g'
                case measure => omega
                case rel => exact ⟨ii + 1, by omega, by rw [HNX.out]; rfl, by go_num, Lib.hid ⟨_, rfl⟩⟩
              | true =>
                go_wp2_with fail
                go_quiet (fail)
                go_wp2_with fail
                go_roundg g'
                case measure => omega
                case rel => exact ⟨ii + 1, by omega, by rw [HNX.out]; rfl, by go_num, Lib.hid ⟨_, rfl⟩⟩
    · have hz : (e2 != 0) = true := by simpa using fun h => h2 h.symm
      subst h1
      go_wp2_with fail
      go_ret
      exact ⟨rfl, HB8.out⟩
  · have hz : (e1 != 0) = true := by simpa using fun h => h1 h.symm
    go_wp2_with fail
    go_ret
    exact ⟨rfl, HB8.out⟩
end Go.Proofs.YtamabdijeklgjaaDoor.Ext
