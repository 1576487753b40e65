/- The law FlowUnits, walked. -/
import Derived.Test.YtamabdijeklgjaaDoorGi
import Derived.Test.YtamabdijeklgjaaDoorFlowPlain
import Derived.Test.YtamabdijeklgjaaDoorL3
namespace Go.Proofs.YtamabdijeklgjaaDoor.Ext
open Go Go.Proofs Go.RowKit Go.Proofs.YtamabdijeklgjaaDoorW.PrintWords Go.Proofs.YtamabdijeklgjaaDoorW.PrintMore
attribute [local go_sem] min2_int min_two
set_option linter.unusedVariables false
set_option linter.unusedSimpArgs false

theorem unitsL_err {ins : List US} : ∀ (l : List FS) (us r : List US) (e : Int), unitsL ins l us = (r, e) → e ≠ 0 → r = []
  | [], us, r, e, h, he => by
    rw [unitsL] at h
    injection h with _ h
    exact absurd h.symm he
  | s :: l, us, r, e, h, he => by
    rw [unitsL] at h
    split at h
    · injection h with h _
      exact h.symm
    · exact unitsL_err l _ r e h he
/-- what the law asks of the answer -/
theorem unitsE_ways (n : List UInt8) (v : Int) (l : List FS) (ins R : List US) (e : Int) (h : unitsE n v l ins = (R, e)) : (e = 1 ∧ R = []) ∨ (e ≠ 1 ∧ validB n v l = true ∧ ins.length = 4 ∧ unitsL ins l [] = (R, e)) := by
  by_cases he : e = 1
  · refine Or.inl ⟨he, ?_⟩
    unfold unitsE at h
    split at h
    · exact unitsL_err l [] R e h (by omega)
    · injection h with h _
      exact h.symm
  · refine Or.inr ⟨he, ?_⟩
    unfold unitsE at h
    split at h
    · rename_i hc
      exact ⟨hc.1, hc.2.1, h⟩
    · injection h with _ h
      exact absurd h.symm he
theorem few_calls (name : ByteArray) (ver : Int) (A : Option Addr) (c : Nat) (l : List FS) (w : World) (hr : Kd.C L.k32 w A l.length l) (hc : l.length ≤ c) :
    Calls Tryd.prog 11 #[.agg #[.string name, .int .i64 ver, .slice A l.length c]] w fun e w' => e = .returned (.bool (decide (l.length ≤ 50) && decide (name.size ≤ 60))) ∧ Below w.heap.size w w' := by
  refine L.observatoryref33_Few.calls name ver A c l _ w hr hc ?_
  unfold L.observatoryref33_Few.f
  by_cases h : (l.length : Int) ≤ 50
  · rw [if_pos h, decide_eq_true (show l.length ≤ 50 by omega), Bool.true_and]
    congr 1
    exact decide_eq_decide.2 (by omega)
  · rw [if_neg h, decide_eq_false (show ¬ l.length ≤ 50 by omega)]
    rfl
/-- the test of a step's numbers -/
theorem step_test {ms : List Bool} {k a d n : Int} {m : Bool} (h : stepM ms ⟨k, a, d, n⟩ = some m) : 0 ≤ a ∧ 0 ≤ d ∧ 0 ≤ n ∧ ((a < ms.length ∧ d < ms.length) ∨ (k = 1 ∧ a = 0 ∧ d = 0)) := by
  obtain ⟨h0, h1, _, h2, h3⟩ := stepM_args h
  have h0' : isOp k = true := h0
  have h1' : 0 ≤ n := h1
  have h2' : okArg (oprOf k) ms 0 a = true := h2
  have h3' : okArg (oprOf k) ms 1 d = true := h3
  by_cases hk : k = 1
  · subst hk
    rcases okArg_yes h2' with ⟨_, e⟩ | ⟨e, _⟩
    · rcases okArg_yes h3' with ⟨_, e2⟩ | ⟨e2, _⟩
      · exact ⟨by omega, by omega, h1', Or.inr ⟨rfl, e, e2⟩⟩
      · exact absurd e2 (by decide)
    · exact absurd e (by decide)
  · have ha : (0 : Int) < (oprOf k).arity := by
      rcases isOp_cases h0' with rfl | rfl | rfl | rfl | rfl | rfl | rfl | rfl | rfl | rfl <;> first | exact absurd rfl hk | decide
    have e1 := okArg_lt h2' ha
    rcases okArg_yes h3' with ⟨_, e2⟩ | ⟨e2, _⟩
    · exact ⟨e1.1, by omega, h1', Or.inl ⟨e1.2, by omega⟩⟩
    · have e3 := okArg_lt h3' e2
      exact ⟨e1.1, e3.1, h1', Or.inl ⟨e1.2, e3.2⟩⟩
set_option maxRecDepth 100000 in
set_option maxHeartbeats 8000000 in
theorem flowUnits_walk (name : ByteArray) (ver : Int) (A I : Option Addr) (c ci : Nat) (l : List FS) (ins : List US) (w0 : World) (hr : Kd.C L.k32 w0 A l.length l) (hc : l.length ≤ c) (hI : Kd.C L.k34 w0 I ins.length ins) (hci : ins.length ≤ ci) :
    Calls Tryd.prog 3 #[.agg #[.string name, .int .i64 ver, .slice A l.length c], .slice I ins.length ci] w0 fun e w' => e = .returned (.bool true) ∧ Below w0.heap.size w0 w' := by
  have hB := below_allocs w0 (.cells #[.string name, .int .i64 ver, .slice A l.length c] 24)
  have BK := Lib.hid (blk_new w0 (.cells #[.string name, .int .i64 ver, .slice A l.length c] 24))
  have HR := Lib.hid (Kd.C_below hr hB)
  have HI := Lib.hid (Kd.C_below hI hB)
  have HC := Lib.hid hc
  have HCI := Lib.hid hci
  have HB := Lib.hid hB
  obtain ⟨R, er, hR⟩ : ∃ R er, unitsE name.data.toList ver l ins = (R, er) := ⟨_, _, rfl⟩
  have HW := Lib.hid (unitsE_ways _ _ _ _ _ _ hR)
  have HRR := Lib.hid hR
  clear hr hI hB hR hc hci
  go_enter Tryd.func3, Tryd.ntmps3
  go_wp2_with fail
  refine (head33_calls _).mono ?_
  rintro e w1 ⟨rfl, hb⟩
  have BK1 := Lib.hid (blk_below BK.out hb)
  have HR1 := Lib.hid (Kd.C_below HR.out hb)
  have HI1 := Lib.hid (Kd.C_below HI.out hb)
  have HB1 := Lib.hid (below_step HB.out hb)
  clear hb BK HR HI HB
  have c0 := blk_cell BK1.out 0
  have c1 := blk_cell BK1.out 1
  have c2 := blk_cell BK1.out 2
  obtain ⟨few, hfew⟩ : ∃ q, (decide (l.length ≤ 50) && decide (name.size ≤ 60)) = q := ⟨_, rfl⟩
  have HF := Lib.hid hfew
  clear hfew
  go_wp2_with fail
  refine (few_calls name ver A c l _ HR1.out HC.out).mono ?_
  rintro e w2 ⟨rfl, hb⟩
  rw [HF.out]
  have BK2 := Lib.hid (blk_below BK1.out hb)
  have HR2 := Lib.hid (Kd.C_below HR1.out hb)
  have HI2 := Lib.hid (Kd.C_below HI1.out hb)
  have HB2 := Lib.hid (below_step HB1.out hb)
  clear hb BK1 HR1 HI1 HB1 c0 c1 c2
  have c0 := blk_cell BK2.out 0
  have c1 := blk_cell BK2.out 1
  have c2 := blk_cell BK2.out 2
  cases few with
  | false =>
    go_wp2_with fail
    go_ret
    exact ⟨rfl, HB2.out⟩
  | true =>
  go_wp2_with fail
  refine (units_calls name ver A I c ci l ins _ HR2.out HI2.out).mono ?_
  rw [HRR.out]
  rintro e w3 ⟨SV, rfl, ho, hb⟩
  obtain ⟨AU, cU, rfl⟩ := own_view ho
  have HOU := Lib.hid ho
  have BK3 := Lib.hid (blk_below BK2.out hb)
  have HR3 := Lib.hid (Kd.C_below HR2.out hb)
  have HI3 := Lib.hid (Kd.C_below HI2.out hb)
  have HB3 := Lib.hid (below_step HB2.out hb)
  clear hb ho BK2 HR2 HI2 HB2 c0 c1 c2
  have c0 := blk_cell BK3.out 0
  have c1 := blk_cell BK3.out 1
  have c2 := blk_cell BK3.out 2
  rcases HW.out with ⟨he, hRn⟩ | ⟨he, hv, h4, hL⟩
  · subst he
    subst hRn
    clear HW HRR
    go_wp2_with fail
    go_ret
    exact ⟨rfl, HB3.out⟩
  have e1 : (er == 1) = false := by simpa using he
  have h4f : ((ins.length : Int) != 4) = false := by rw [h4]; rfl
  have hls : l.length ≤ 40 ∧ 1 ≤ l.length ∧ ∃ ms, masksL l [] = some ms := by
    obtain ⟨_, _, _, q1, q2, ms, q3, _⟩ := valid_parts hv
    exact ⟨q2, q1, ms, q3⟩
  obtain ⟨hl40, hl1, hms⟩ := hls
  have HMS := Lib.hid hms
  have HI4 := Lib.hid h4
  have HL := Lib.hid hL
  have HV := Lib.hid (fun (w : World) (hh : Kd.C L.k32 w A l.length l) => by have := valid_of_reads name ver A c l w hh; rw [hv] at this; exact this)
  clear he hv h4 hL hms HW HRR
  go_wp2_with fail
  refine (HV.out _ HR3.out).mono ?_
  rintro e w ⟨rfl, hb⟩
  have BK4 := Lib.hid (blk_below BK3.out hb)
  have HR4 := Lib.hid (Kd.C_below HR3.out hb)
  have HI4' := Lib.hid (Kd.C_below HI3.out hb)
  have HB4 := Lib.hid (below_step HB3.out hb)
  have HO4 := Lib.hid (own_below_ HOU.out hb)
  clear hb BK3 HR3 HI3 HB3 HOU c0 c1 c2 HV
  go_wp2_with fail
  clear h4f e1
  obtain ⟨b, o, rfl, hst⟩ := steps_view HR4.out (by intro e; rw [e] at hl1; simp at hl1)
  obtain ⟨bi, oi, rfl, hin⟩ := units_view HI4'.out (by intro e; have := HI4.out; rw [e] at this; simp at this)
  have HST := Lib.hid hst
  have HIN := Lib.hid hin
  clear hst hin HR4 HI4'
  go_loopg [8, 9] l.length (fun g v8 v9 wx => ∃ (i : Nat) (us : List US) (A' : Option Addr) (c' : Nat), i + g = l.length ∧ us.length = i ∧ v8 = .slice A' i c' ∧ v9 = .int .i64 i ∧ Hid (unitsL ins l [] = unitsL ins (l.drop i) us) ∧ Hid (wx.ownsRow w.heap.size 34 3 (.slice A' i c') i (encUS us)) ∧ Hid (Below w.heap.size w wx))
  case atStart => exact ⟨0, [], none, 0, by omega, rfl, rfl, rfl, Lib.hid rfl, Lib.hid (own_nil_ _ _ _ _), Lib.hid (Below.refl _ _)⟩
  case round =>
    obtain ⟨i, us, A', c', hig, hus, rfl, rfl, HM, HO, HBx⟩ := hrel
    have HUS := Lib.hid hus
    clear hus
    have BKx := Lib.hid (blk_below BK4.out HBx.out)
    have c0 := blk_cell BKx.out 0
    have c1 := blk_cell BKx.out 1
    have c2 := blk_cell BKx.out 2
    cases gk with
    | zero =>
      obtain rfl : i = l.length := by omega
      have hz : ¬ (l.length : Int) < (l.length : Int) := by omega
      have HFN : Hid (R = us ∧ er = 0) := Lib.hid (by
        have hm := HM.out
        rw [List.drop_length, unitsL] at hm
        have := HL.out.symm.trans hm
        injection this with q1 q2
        exact ⟨q1, q2⟩)
      obtain ⟨hq1, rfl⟩ := HFN.out
      subst hq1
      have HOx := own_below_ HO4.out HBx.out
      obtain ⟨A1, d1, q1, q2, q3⟩ := Kd.R_reads (units_R HOx)
      have ho := HO.out
      rw [← HUS.out] at ho
      obtain ⟨A2, d2, q4, q5, q6⟩ := Kd.R_reads (units_R ho)
      injection q1 with q11 q12 q13
      injection q4 with q41 q42 q43
      subst q11
      subst q13
      subst q41
      subst q43
      have HS := Lib.hid (L.observatorylaw33_same.calls 100 _ _ R _ _ R true wr q3 q2 q6 q5 (same_self R 100 (by rw [HUS.out]; omega) (by rw [HUS.out]; omega)))
      rw [HUS.out] at HS ⊢
      clear q12 q42 q2 q3 q5 q6 ho HOx HFN
      go_wp2_with fail
      refine HS.out.mono ?_
      rintro e w6 ⟨rfl, hd⟩
      have HBE := Lib.hid (below_step HBx.out hd.below)
      clear hd HS
      go_wp2_with fail
      go_ret
      exact ⟨rfl, below_step HB4.out HBE.out⟩
    | succ g =>
      have hil : i < l.length := by omega
      have hz : (i : Int) < (l.length : Int) := by omega
      obtain ⟨x, hx⟩ : ∃ x, l[i]? = some x := ⟨_, List.getElem?_eq_getElem hil⟩
      obtain ⟨ms, m, hml, hsm⟩ : ∃ ms m, ms.length = i ∧ stepM ms x = some m := by
        obtain ⟨MS, hMS⟩ := HMS.out
        obtain ⟨ms, m, h1, h2⟩ := masks_at l [] MS i x hMS hx
        exact ⟨ms, m, by simpa using h1, h2⟩
      have HSx := Lib.hid (HST.out.below HBx.out)
      obtain ⟨k, a, d, n⟩ := x
      have x0 : wr.cell? ⟨b, o + i * 4, none⟩ = some (.int .i64 k) := HSx.out.2 i _ hx 0 _ rfl
      have x1 : wr.cell? ⟨b, o + i * 4 + 1, none⟩ = some (.int .i64 a) := HSx.out.2 i _ hx 1 _ rfl
      have x2 : wr.cell? ⟨b, o + i * 4 + 2, none⟩ = some (.int .i64 d) := HSx.out.2 i _ hx 2 _ rfl
      have x3 : wr.cell? ⟨b, o + i * 4 + 3, none⟩ = some (.int .i64 n) := HSx.out.2 i _ hx 3 _ rfl
      have HX := Lib.hid hx
      clear hx
      go_upto_region 13 with fail
      have HTEST := Lib.hid (step_test hsm)
      rw [hml] at HTEST
      go_cut [95] (fun s95 wx => s95 = .bool false ∧ wx = (wr.alloc (.cells #[.int .i64 k, .int .i64 a, .int .i64 d, .int .i64 n] 32)).alloc (.cells #[.int .i64 0, .int .i64 0, .int .i64 0] 34))
      case first =>
        obtain ⟨t1, t2, t3, t4⟩ := HTEST.out
        have u1 : ¬ a < 0 := by omega
        have u2 : ¬ d < 0 := by omega
        have u3 : ¬ n < 0 := by omega
        rcases t4 with ⟨t5, t6⟩ | ⟨rfl, rfl, rfl⟩
        · have u4 : ¬ (i : Int) ≤ a := by omega
          have u5 : ¬ (i : Int) ≤ d := by omega
          clear t1 t2 t3 t5 t6 hsm
          go_wp2_with fail
          go_meet
          exact ⟨rfl, rfl⟩
        · clear t1 t2 t3 hsm
          by_cases hi0 : (i : Int) ≤ 0
          · obtain rfl : i = 0 := by omega
            go_wp2_with fail
            go_meet
            exact ⟨rfl, rfl⟩
          · have u4 : decide ((i : Int) ≤ 0) = false := decide_eq_false hi0
            go_wp2_with fail
            go_meet
            exact ⟨rfl, rfl⟩
      case rest =>
      obtain ⟨rfl, rfl⟩ := hcut
      clear HTEST
      go_upto_block 2 with fail
      obtain ⟨⟨⟨z0, z1, z2⟩, ze⟩, hZ⟩ : ∃ z, unitOf ins us ⟨k, a, d, n⟩ = z := ⟨_, rfl⟩
      have HZ := Lib.hid hZ
      clear hZ
      have BS : Hid (((wr.alloc (.cells #[.int .i64 k, .int .i64 a, .int .i64 d, .int .i64 n] 32)).alloc (.cells #[.int .i64 0, .int .i64 0, .int .i64 0] 34)).heap[wr.heap.size]? = some (.cells #[.int .i64 k, .int .i64 a, .int .i64 d, .int .i64 n] 32 (0, 0))) := Lib.hid (blk_alloc (blk_new wr _) _)
      have BU : Hid (((wr.alloc (.cells #[.int .i64 k, .int .i64 a, .int .i64 d, .int .i64 n] 32)).alloc (.cells #[.int .i64 0, .int .i64 0, .int .i64 0] 34)).heap[wr.heap.size + 1]? = some (.cells #[.int .i64 0, .int .i64 0, .int .i64 0] 34 (0, 0))) := Lib.hid (by have := blk_new (wr.alloc (.cells #[.int .i64 k, .int .i64 a, .int .i64 d, .int .i64 n] 32)) (.cells #[.int .i64 0, .int .i64 0, .int .i64 0] 34); rw [World.size_alloc] at this; exact this)
      go_cut [12] (fun s12 wx => s12 = .int .i64 ze ∧ Hid (wx.heap[wr.heap.size + 1]? = some (.cells #[.int .i64 z0, .int .i64 z1, .int .i64 z2] 34 (0, 0))) ∧ Hid (wx.ownsRow w.heap.size 34 3 (.slice A' i c') i (encUS us)) ∧ Hid (Below w.heap.size w wx))
      case first =>
        have hop := (stepM_args hsm).1
        clear x0 x1 x2 x3
        rcases isOp_cases hop with rfl | rfl | rfl | rfl | rfl | rfl | rfl | rfl | rfl | rfl
        all_goals clear hop
        · have hi3 : 0 ≤ n ∧ n ≤ 3 := step_in hsm rfl
          obtain ⟨n, rfl⟩ := Int.eq_ofNat_of_zero_le hi3.1
          have hn4 : n < ins.length := by rw [HI4.out]; omega
          have hn1 : (n : Int) < (ins.length : Int) := by omega
          have hmin : ¬ (3 : Int) < (n : Int) := by omega
          obtain ⟨⟨p0, p1, p2⟩, hp⟩ : ∃ y, ins[n]? = some y := ⟨_, List.getElem?_eq_getElem hn4⟩
          have HIx := (HIN.out.below HBx.out)
          have y0 : wr.cell? ⟨bi, oi + n * 3, none⟩ = some (.int .i64 p0) := HIx.2 n _ hp 0 _ rfl
          have y1 : wr.cell? ⟨bi, oi + n * 3 + 1, none⟩ = some (.int .i64 p1) := HIx.2 n _ hp 1 _ rfl
          have y2 : wr.cell? ⟨bi, oi + n * 3 + 2, none⟩ = some (.int .i64 p2) := HIx.2 n _ hp 2 _ rfl
          have hbl : bi < wr.heap.size := HIx.1
          obtain ⟨rfl, rfl, rfl, rfl⟩ := pair_eq ((unitOf_in hp).symm.trans HZ.out)
          clear hi3 hp HIx hsm
          go_wp2_with fail
          go_meet
          exact ⟨rfl, Lib.hid (blk_new2 wr _ _ _), Lib.hid ((HO.out.alloc _).alloc _), Lib.hid (below_alloc (below_alloc HBx.out _) _)⟩
        · have hb3 : 0 ≤ a ∧ a < i ∧ 0 ≤ d ∧ d < i := by
            have := step_two hsm (by first | exact Or.inl rfl | exact Or.inr (Or.inl rfl) | exact Or.inr (Or.inr (Or.inl rfl)) | exact Or.inr (Or.inr (Or.inr rfl)))
            rw [hml] at this
            exact this
          have HOO := HO.out
          obtain ⟨a, rfl⟩ := Int.eq_ofNat_of_zero_le (by first | exact hb3.1 | exact hb3.2.2.1 : 0 ≤ a)
          obtain ⟨d, rfl⟩ := Int.eq_ofNat_of_zero_le (by first | exact hb3.1 | exact hb3.2.2.1 : 0 ≤ d)
          have ha : a < i := by omega
          have ha' : (a : Int) < (i : Int) := by omega
          obtain ⟨⟨p0, p1, p2⟩, hau⟩ : ∃ y, us[a]? = some y := ⟨_, List.getElem?_eq_getElem (by rw [HUS.out]; omega)⟩
          have hd : d < i := by omega
          have hd' : (d : Int) < (i : Int) := by omega
          obtain ⟨⟨q0, q1, q2⟩, hdu⟩ : ∃ y, us[d]? = some y := ⟨_, List.getElem?_eq_getElem (by rw [HUS.out]; omega)⟩
          obtain ⟨gB, rfl, hgl, y0, y1, y2⟩ := unit_own HOO hau
          obtain ⟨gB', hgB, _, y3, y4, y5⟩ := unit_own HOO hdu
          injection hgB with hgB
          injection hgB with hgB _ _
          subst hgB
          obtain ⟨qq, hqq⟩ : ∃ qq, sameU ⟨p0, p1, p2⟩ ⟨q0, q1, q2⟩ = qq := ⟨_, rfl⟩
          have hun := unitOf_add (ins := ins) (k := 2) (n := n) (by decide) hau hdu
          rw [hqq] at hun
          have heq := eq_units hqq
          cases qq with
          | true =>
            obtain ⟨rfl, rfl, rfl, rfl⟩ := pair_eq (hun.symm.trans HZ.out)
            clear hun hqq hau hdu HOO hb3 hsm
            go_wp2_with fail
            go_quiet (fail)
            go_wp2_with fail
            go_meet
            exact ⟨rfl, Lib.hid (blk_drewN (blk_new2 wr _ _ _) _), Lib.hid (own_drewN ((HO.out.alloc _).alloc _) _), Lib.hid (bdr (below_alloc (below_alloc HBx.out _) _) _)⟩
          | false =>
            obtain ⟨rfl, rfl, rfl, rfl⟩ := pair_eq (hun.symm.trans HZ.out)
            clear hun hqq hau hdu HOO hb3 hsm
            go_wp2_with fail
            go_quiet (fail)
            go_wp2_with fail
            go_meet
            exact ⟨rfl, Lib.hid (blk_drewN (blk_new2 wr _ _ _) _), Lib.hid (own_drewN ((HO.out.alloc _).alloc _) _), Lib.hid (bdr (below_alloc (below_alloc HBx.out _) _) _)⟩
        · have hb3 : 0 ≤ a ∧ a < i ∧ 0 ≤ d ∧ d < i := by
            have := step_two hsm (by first | exact Or.inl rfl | exact Or.inr (Or.inl rfl) | exact Or.inr (Or.inr (Or.inl rfl)) | exact Or.inr (Or.inr (Or.inr rfl)))
            rw [hml] at this
            exact this
          have HOO := HO.out
          obtain ⟨a, rfl⟩ := Int.eq_ofNat_of_zero_le (by first | exact hb3.1 | exact hb3.2.2.1 : 0 ≤ a)
          obtain ⟨d, rfl⟩ := Int.eq_ofNat_of_zero_le (by first | exact hb3.1 | exact hb3.2.2.1 : 0 ≤ d)
          have ha : a < i := by omega
          have ha' : (a : Int) < (i : Int) := by omega
          obtain ⟨⟨p0, p1, p2⟩, hau⟩ : ∃ y, us[a]? = some y := ⟨_, List.getElem?_eq_getElem (by rw [HUS.out]; omega)⟩
          have hd : d < i := by omega
          have hd' : (d : Int) < (i : Int) := by omega
          obtain ⟨⟨q0, q1, q2⟩, hdu⟩ : ∃ y, us[d]? = some y := ⟨_, List.getElem?_eq_getElem (by rw [HUS.out]; omega)⟩
          obtain ⟨gB, rfl, hgl, y0, y1, y2⟩ := unit_own HOO hau
          obtain ⟨gB', hgB, _, y3, y4, y5⟩ := unit_own HOO hdu
          injection hgB with hgB
          injection hgB with hgB _ _
          subst hgB
          obtain ⟨qq, hqq⟩ : ∃ qq, sameU ⟨p0, p1, p2⟩ ⟨q0, q1, q2⟩ = qq := ⟨_, rfl⟩
          have hun := unitOf_add (ins := ins) (k := 3) (n := n) (by decide) hau hdu
          rw [hqq] at hun
          have heq := eq_units hqq
          cases qq with
          | true =>
            obtain ⟨rfl, rfl, rfl, rfl⟩ := pair_eq (hun.symm.trans HZ.out)
            clear hun hqq hau hdu HOO hb3 hsm
            go_wp2_with fail
            go_quiet (fail)
            go_wp2_with fail
            go_meet
            exact ⟨rfl, Lib.hid (blk_drewN (blk_new2 wr _ _ _) _), Lib.hid (own_drewN ((HO.out.alloc _).alloc _) _), Lib.hid (bdr (below_alloc (below_alloc HBx.out _) _) _)⟩
          | false =>
            obtain ⟨rfl, rfl, rfl, rfl⟩ := pair_eq (hun.symm.trans HZ.out)
            clear hun hqq hau hdu HOO hb3 hsm
            go_wp2_with fail
            go_quiet (fail)
            go_wp2_with fail
            go_meet
            exact ⟨rfl, Lib.hid (blk_drewN (blk_new2 wr _ _ _) _), Lib.hid (own_drewN ((HO.out.alloc _).alloc _) _), Lib.hid (bdr (below_alloc (below_alloc HBx.out _) _) _)⟩
        · have hb3 : 0 ≤ a ∧ a < i ∧ 0 ≤ d ∧ d < i := by
            have := step_two hsm (by first | exact Or.inl rfl | exact Or.inr (Or.inl rfl) | exact Or.inr (Or.inr (Or.inl rfl)) | exact Or.inr (Or.inr (Or.inr rfl)))
            rw [hml] at this
            exact this
          have HOO := (HO.out.alloc (.cells #[.int .i64 4, .int .i64 a, .int .i64 d, .int .i64 n] 32)).alloc (.cells #[.int .i64 0, .int .i64 0, .int .i64 0] 34)
          obtain ⟨a, rfl⟩ := Int.eq_ofNat_of_zero_le (by first | exact hb3.1 | exact hb3.2.2.1 : 0 ≤ a)
          obtain ⟨d, rfl⟩ := Int.eq_ofNat_of_zero_le (by first | exact hb3.1 | exact hb3.2.2.1 : 0 ≤ d)
          have ha : a < i := by omega
          have ha' : (a : Int) < (i : Int) := by omega
          obtain ⟨⟨p0, p1, p2⟩, hau⟩ : ∃ y, us[a]? = some y := ⟨_, List.getElem?_eq_getElem (by rw [HUS.out]; omega)⟩
          have hd : d < i := by omega
          have hd' : (d : Int) < (i : Int) := by omega
          obtain ⟨⟨q0, q1, q2⟩, hdu⟩ : ∃ y, us[d]? = some y := ⟨_, List.getElem?_eq_getElem (by rw [HUS.out]; omega)⟩
          obtain ⟨gB, rfl, hgl, y0, y1, y2⟩ := unit_own HOO hau
          obtain ⟨gB', hgB, _, y3, y4, y5⟩ := unit_own HOO hdu
          injection hgB with hgB
          injection hgB with hgB _ _
          subst hgB
          have hun := (unitOf_mul (ins := ins) (n := n) hau hdu).symm.trans HZ.out
          have HM2 := Lib.hid hun
          have k1 : ((wr.alloc (.cells #[.int .i64 4, .int .i64 (a : Nat), .int .i64 (d : Nat), .int .i64 n] 32)).alloc (.cells #[.int .i64 0, .int .i64 0, .int .i64 0] 34)).cell? ⟨wr.heap.size, 1, none⟩ = some (.int .i64 (a : Nat)) := blk_cell BS.out 1
          have k2 : ((wr.alloc (.cells #[.int .i64 4, .int .i64 (a : Nat), .int .i64 (d : Nat), .int .i64 n] 32)).alloc (.cells #[.int .i64 0, .int .i64 0, .int .i64 0] 34)).cell? ⟨wr.heap.size, 2, none⟩ = some (.int .i64 (d : Nat)) := blk_cell BS.out 2
          have k0 : ((wr.alloc (.cells #[.int .i64 4, .int .i64 (a : Nat), .int .i64 (d : Nat), .int .i64 n] 32)).alloc (.cells #[.int .i64 0, .int .i64 0, .int .i64 0] 34)).cell? ⟨wr.heap.size, 0, none⟩ = some (.int .i64 4) := blk_cell BS.out 0
          have HO2 := Lib.hid HOO
          have HB4 := Lib.hid (below_alloc (below_alloc HBx.out (.cells #[.int .i64 4, .int .i64 (a : Nat), .int .i64 (d : Nat), .int .i64 n] 32)) (.cells #[.int .i64 0, .int .i64 0, .int .i64 0] 34))
          have hsz : ((wr.alloc (.cells #[.int .i64 4, .int .i64 (a : Nat), .int .i64 (d : Nat), .int .i64 n] 32)).alloc (.cells #[.int .i64 0, .int .i64 0, .int .i64 0] 34)).heap.size = wr.heap.size + 1 + 1 := by rw [World.size_alloc, World.size_alloc]
          clear hun hau hdu HOO hb3 hsm
          go_upto_region 22 with fail
          have hwb : w.heap.size ≤ wr.heap.size + 1 := Nat.le_succ_of_le HBx.out.size
          have hgw : gB < wr.heap.size := (HO.out.lt gB rfl).2
          have BU2 : Hid (((wr.alloc (.cells #[.int .i64 4, .int .i64 (a : Nat), .int .i64 (d : Nat), .int .i64 n] 32)).alloc (.cells #[.int .i64 0, .int .i64 0, .int .i64 0] 34)).heap[wr.heap.size + 1]? = some (.cells #[.int .i64 0, .int .i64 0, .int .i64 0] 34 (0, 0))) := BU
          clear BU BS k0
          generalize (wr.alloc (.cells #[.int .i64 4, .int .i64 (a : Nat), .int .i64 (d : Nat), .int .i64 n] 32)).alloc (.cells #[.int .i64 0, .int .i64 0, .int .i64 0] 34) = W2 at k1 k2 y0 y1 y2 y3 y4 y5 HO2 HB4 BU2 hsz hgl ⊢
          have HK : Hid (∀ w', Below W2.drew.heap.size W2.drew w' → w'.cell? ⟨wr.heap.size, 1, none⟩ = some (.int .i64 (a : Nat)) ∧ w'.cell? ⟨wr.heap.size, 2, none⟩ = some (.int .i64 (d : Nat)) ∧ w'.cell? ⟨gB, a * 3, none⟩ = some (.int .i64 p0) ∧ w'.cell? ⟨gB, a * 3 + 1, none⟩ = some (.int .i64 p1) ∧ w'.cell? ⟨gB, a * 3 + 2, none⟩ = some (.int .i64 p2) ∧ w'.cell? ⟨gB, d * 3, none⟩ = some (.int .i64 q0) ∧ w'.cell? ⟨gB, d * 3 + 1, none⟩ = some (.int .i64 q1) ∧ w'.cell? ⟨gB, d * 3 + 2, none⟩ = some (.int .i64 q2)) := Lib.hid (fun w' hb =>
            have l1 : wr.heap.size < W2.heap.size := by omega
            ⟨(hb.cell (p := ⟨wr.heap.size, 1, none⟩) l1).trans k1, (hb.cell (p := ⟨wr.heap.size, 2, none⟩) l1).trans k2, (hb.cell (p := ⟨gB, a * 3, none⟩) hgl).trans y0, (hb.cell (p := ⟨gB, a * 3 + 1, none⟩) hgl).trans y1, (hb.cell (p := ⟨gB, a * 3 + 2, none⟩) hgl).trans y2, (hb.cell (p := ⟨gB, d * 3, none⟩) hgl).trans y3, (hb.cell (p := ⟨gB, d * 3 + 1, none⟩) hgl).trans y4, (hb.cell (p := ⟨gB, d * 3 + 2, none⟩) hgl).trans y5⟩)
          have gne : gB ≠ wr.heap.size + 1 := by omega
          have gne2 : wr.heap.size + 1 ≠ gB := by omega
          clear hsz
          go_region_held3 (fun w' => w'.cell? ⟨wr.heap.size, 1, none⟩ = some (.int .i64 (a : Nat)) ∧ w'.cell? ⟨wr.heap.size, 2, none⟩ = some (.int .i64 (d : Nat)) ∧ w'.cell? ⟨gB, a * 3, none⟩ = some (.int .i64 p0) ∧ w'.cell? ⟨gB, a * 3 + 1, none⟩ = some (.int .i64 p1) ∧ w'.cell? ⟨gB, a * 3 + 2, none⟩ = some (.int .i64 p2) ∧ w'.cell? ⟨gB, d * 3, none⟩ = some (.int .i64 q0) ∧ w'.cell? ⟨gB, d * 3 + 1, none⟩ = some (.int .i64 q1) ∧ w'.cell? ⟨gB, d * 3 + 2, none⟩ = some (.int .i64 q2)) (first | exact HK.out _ hb | go_keep)
            ((go_at_call 14; refine (mul_lit HM2.out _).mono ?_; rintro e w2 ⟨rfl, hb⟩; have hk := HK.out _ hb; have g0 := blk_frozen (blk_below (blk_drew BU2.out) hb) 0; have g1 := blk_frozen (blk_below (blk_drew BU2.out) hb) 1; have g2 := blk_frozen (blk_below (blk_drew BU2.out) hb) 2; have e0 := blk_cell (blk_below (blk_drew BU2.out) hb) 0; have e1 := blk_cell (blk_below (blk_drew BU2.out) hb) 1; have e2 := blk_cell (blk_below (blk_drew BU2.out) hb) 2))
          all_goals
            go_wp2_with fail
            go_meet
            exact ⟨rfl, Lib.hid (blk_put (blk_put (blk_put (blk_below (blk_drew BU2.out) hb) 0 (.int .i64 z0) rfl) 1 (.int .i64 z1) rfl) 2 (.int .i64 z2) rfl),
              Lib.hid (own_setCell (own_setCell (own_setCell (own_below_ (own_drew HO2.out) hb) (fun e => gne (by injection e with e; exact e.symm)) _) (fun e => gne (by injection e with e; exact e.symm)) _) (fun e => gne (by injection e with e; exact e.symm)) _),
              Lib.hid (below_set (below_set (below_set (below_step HB4.out (undrew hb)) ⟨wr.heap.size + 1, 0, none⟩ (.int .i64 z0) hwb) ⟨wr.heap.size + 1, 1, none⟩ (.int .i64 z1) hwb) ⟨wr.heap.size + 1, 2, none⟩ (.int .i64 z2) hwb)⟩
        · have hb3 : 0 ≤ a ∧ a < i := by
            have := step_one hsm rfl
            rw [hml] at this
            exact this
          have HOO := HO.out
          obtain ⟨a, rfl⟩ := Int.eq_ofNat_of_zero_le (by first | exact hb3.1 | exact hb3.2.2.1 : 0 ≤ a)
          have ha : a < i := by omega
          have ha' : (a : Int) < (i : Int) := by omega
          obtain ⟨⟨p0, p1, p2⟩, hau⟩ : ∃ y, us[a]? = some y := ⟨_, List.getElem?_eq_getElem (by rw [HUS.out]; omega)⟩
          obtain ⟨gB, rfl, hgl, y0, y1, y2⟩ := unit_own HOO hau
          obtain ⟨rfl, rfl, rfl, rfl⟩ := pair_eq ((unitOf_scale (ins := ins) (d := d) (n := n) hau).symm.trans HZ.out)
          clear hau HOO hb3 hsm
          go_wp2_with fail
          go_meet
          exact ⟨rfl, Lib.hid (blk_new2 wr _ _ _), Lib.hid ((HO.out.alloc _).alloc _), Lib.hid (below_alloc (below_alloc HBx.out _) _)⟩
        · have hb3 : 0 ≤ a ∧ a < i ∧ 0 ≤ d ∧ d < i := by
            have := step_two hsm (by first | exact Or.inl rfl | exact Or.inr (Or.inl rfl) | exact Or.inr (Or.inr (Or.inl rfl)) | exact Or.inr (Or.inr (Or.inr rfl)))
            rw [hml] at this
            exact this
          have HOO := HO.out
          obtain ⟨a, rfl⟩ := Int.eq_ofNat_of_zero_le (by first | exact hb3.1 | exact hb3.2.2.1 : 0 ≤ a)
          obtain ⟨d, rfl⟩ := Int.eq_ofNat_of_zero_le (by first | exact hb3.1 | exact hb3.2.2.1 : 0 ≤ d)
          have ha : a < i := by omega
          have ha' : (a : Int) < (i : Int) := by omega
          obtain ⟨⟨p0, p1, p2⟩, hau⟩ : ∃ y, us[a]? = some y := ⟨_, List.getElem?_eq_getElem (by rw [HUS.out]; omega)⟩
          have hd : d < i := by omega
          have hd' : (d : Int) < (i : Int) := by omega
          obtain ⟨⟨q0, q1, q2⟩, hdu⟩ : ∃ y, us[d]? = some y := ⟨_, List.getElem?_eq_getElem (by rw [HUS.out]; omega)⟩
          obtain ⟨gB, rfl, hgl, y0, y1, y2⟩ := unit_own HOO hau
          obtain ⟨gB', hgB, _, y3, y4, y5⟩ := unit_own HOO hdu
          injection hgB with hgB
          injection hgB with hgB _ _
          subst hgB
          obtain ⟨qq, hqq⟩ : ∃ qq, sameU ⟨p0, p1, p2⟩ ⟨q0, q1, q2⟩ = qq := ⟨_, rfl⟩
          have hun := unitOf_add (ins := ins) (k := 6) (n := n) (by decide) hau hdu
          rw [hqq] at hun
          have heq := eq_units hqq
          cases qq with
          | true =>
            obtain ⟨rfl, rfl, rfl, rfl⟩ := pair_eq (hun.symm.trans HZ.out)
            clear hun hqq hau hdu HOO hb3 hsm
            go_wp2_with fail
            go_quiet (fail)
            go_wp2_with fail
            go_meet
            exact ⟨rfl, Lib.hid (blk_drewN (blk_new2 wr _ _ _) _), Lib.hid (own_drewN ((HO.out.alloc _).alloc _) _), Lib.hid (bdr (below_alloc (below_alloc HBx.out _) _) _)⟩
          | false =>
            obtain ⟨rfl, rfl, rfl, rfl⟩ := pair_eq (hun.symm.trans HZ.out)
            clear hun hqq hau hdu HOO hb3 hsm
            go_wp2_with fail
            go_quiet (fail)
            go_wp2_with fail
            go_meet
            exact ⟨rfl, Lib.hid (blk_drewN (blk_new2 wr _ _ _) _), Lib.hid (own_drewN ((HO.out.alloc _).alloc _) _), Lib.hid (bdr (below_alloc (below_alloc HBx.out _) _) _)⟩
        · obtain ⟨rfl, rfl, rfl, rfl⟩ := pair_eq ((unitOf_none (ins := ins) (us := us) (a := a) (d := d) (n := n) (k := 7) (by decide)).symm.trans HZ.out)
          clear hsm
          go_wp2_with fail
          go_meet
          exact ⟨rfl, Lib.hid (blk_new2 wr _ _ _), Lib.hid ((HO.out.alloc _).alloc _), Lib.hid (below_alloc (below_alloc HBx.out _) _)⟩
        · obtain ⟨rfl, rfl, rfl, rfl⟩ := pair_eq ((unitOf_none (ins := ins) (us := us) (a := a) (d := d) (n := n) (k := 8) (by decide)).symm.trans HZ.out)
          clear hsm
          go_wp2_with fail
          go_meet
          exact ⟨rfl, Lib.hid (blk_new2 wr _ _ _), Lib.hid ((HO.out.alloc _).alloc _), Lib.hid (below_alloc (below_alloc HBx.out _) _)⟩
        · obtain ⟨rfl, rfl, rfl, rfl⟩ := pair_eq ((unitOf_none (ins := ins) (us := us) (a := a) (d := d) (n := n) (k := 9) (by decide)).symm.trans HZ.out)
          clear hsm
          go_wp2_with fail
          go_meet
          exact ⟨rfl, Lib.hid (blk_new2 wr _ _ _), Lib.hid ((HO.out.alloc _).alloc _), Lib.hid (below_alloc (below_alloc HBx.out _) _)⟩
        · obtain ⟨rfl, rfl, rfl, rfl⟩ := pair_eq ((unitOf_none (ins := ins) (us := us) (a := a) (d := d) (n := n) (k := 10) (by decide)).symm.trans HZ.out)
          clear hsm
          go_wp2_with fail
          go_meet
          exact ⟨rfl, Lib.hid (blk_new2 wr _ _ _), Lib.hid ((HO.out.alloc _).alloc _), Lib.hid (below_alloc (below_alloc HBx.out _) _)⟩
      case rest =>
        obtain ⟨rfl, HBU, HO3, HB3⟩ := hcut
        clear BS BU
        have b0 := blk_cell HBU.out 0
        have b1 := blk_cell HBU.out 1
        have b2 := blk_cell HBU.out 2
        clear c0 c1 c2
        by_cases hze : ze = 0
        · subst hze
          have HM2 : Hid (unitsL ins l [] = unitsL ins (l.drop (i + 1)) (us ++ [⟨z0, z1, z2⟩])) := Lib.hid (by
            rw [HM.out, units_go HX.out (by rw [HZ.out]), HZ.out])
          clear HM
          obtain ⟨it, hi, hz0, hz1, hz2⟩ := info_parts infoU
          go_wp2_with (first | (at_builtin; refine wpList_append_own _ rfl _ _ 25 rfl w.heap.size 34 it (.agg #[.int .i64 0, .int .i64 0, .int .i64 0]) 3 24 Tryd.underlying25 hi hz0 hz1 hz2 rfl (by decide) _ _ _ rfl (HO3.out.alloc _) ⟨wc.heap.size, 0, none⟩ 1 1 [.int .i64 z0, .int .i64 z1, .int .i64 z2] rfl rfl ?c1 ?c2 ?c3 ?c4 ?c5 ?_) | fail)
          case c1 =>
            have hn := blk_new wc (.cells #[.int .i64 z0, .int .i64 z1, .int .i64 z2] 34)
            intro j u hj
            match j, hj with
            | 0, hj => simp at hj; subst hj; exact blk_cell hn 0
            | 1, hj => simp at hj; subst hj; exact blk_cell hn 1
            | 2, hj => simp at hj; subst hj; exact blk_cell hn 2
          case c2 => intro u hu; simp at hu; rcases hu with rfl | rfl | rfl <;> rfl
          case c3 => unfold maxLen; omega
          case c4 => omega
          case c5 => have := HB3.out.size; simp; omega
          intro v' w4' hown hgrow _
          have HB8 : Hid (Below w.heap.size w w4') := Lib.hid (below_grown_own (below_alloc HB3.out _) (HO3.out.alloc _) hgrow)
          obtain ⟨A2, c2', rfl⟩ := own_view hown
          have HO8 : Hid (w4'.ownsRow w.heap.size 34 3 (.slice A2 (i + 1) c2') (i + 1) (encUS (us ++ [⟨z0, z1, z2⟩]))) := Lib.hid (by rw [encUS_push]; exact hown)
          clear hgrow hown
          go_wp2_with fail
          go_roundg g
          case measure => omega
          case rel => exact ⟨i + 1, us ++ [⟨z0, z1, z2⟩], A2, c2', by omega, by rw [List.length_append, HUS.out]; rfl, rfl, by go_num, HM2, HO8, HB8⟩
        · have e0 : (ze == 0) = false := by simpa using hze
          have e1 : (ze != 0) = true := by simpa using hze
          have HN : Hid (R = [] ∧ er = ze) := Lib.hid (by
            have hb := units_bad HX.out (by rw [HZ.out]; exact hze)
            rw [HZ.out] at hb
            have := HL.out.symm.trans (HM.out.trans hb)
            injection this with q1 q2
            exact ⟨q1, q2⟩)
          obtain ⟨hq1, hq2⟩ := HN.out
          subst hq1
          subst hq2
          have e2 : (er == er) = true := by simp
          clear hze HM HN
          go_wp2_with fail
          go_ret
          exact ⟨rfl, below_step HB4.out HB3.out⟩
end Go.Proofs.YtamabdijeklgjaaDoor.Ext
