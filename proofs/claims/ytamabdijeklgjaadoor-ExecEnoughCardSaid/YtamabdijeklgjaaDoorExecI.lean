/- The chapter's examples (law 34's head), walked. -/
import Derived.Test.YtamabdijeklgjaaDoorExecH
namespace Go.Proofs.YtamabdijeklgjaaDoor.Ext
open Go Go.Proofs Go.RowKit Go.Proofs.YtamabdijeklgjaaDoorW.PrintWords
set_option linter.unusedVariables false
set_option linter.unusedSimpArgs false

theorem px_block {w : World} {g : Nat} {l : List FS} {t : TypeId} (h : w.heap[g]? = some (.cells (encFS l).toArray t (0, 0))) (hl : l.length ≤ 9223372036854775807) : Kd.C L.k32 w (some ⟨g, 0, none⟩) l.length l :=
  ⟨rfl, hl, fun _ => ⟨⟨g, 0, none⟩, rfl, fun j p hj => ⟨stepC p, rfl, L.k32_mk w p, fun i u hu => by
    have := encFS_get l j p hj i u hu
    rw [Addr.add_mid, Nat.zero_add]
    rw [blk_cell h]
    show (encFS l).toArray[j * 4 + i]? = some u
    simpa using this⟩⟩⟩
theorem run_t0 {bud v0 v1 v2 v3 u : Int} (h : runE [102, 97, 115, 116] 2 st0 4 (pixI in0) bud = ([v0, v1, v2, v3], u, 0)) (b o c g : Nat) (w : World) (hr : Kd.C L.k32 w (some ⟨b, o, none⟩) 7 st0) (hI : Kd.C L.k32 w (some ⟨g, 0, none⟩) 4 in0) (hT : LogicTab w) :
    Calls Tryd.prog 19 #[.agg #[.string { data := #[102, 97, 115, 116] }, .int .i64 2, .slice (some ⟨b, o, none⟩) 7 c], .slice (some ⟨g, 0, none⟩) 4 4, .int .i64 bud] w fun e w' => e = .returned (.tuple #[.agg #[.int .i64 v0, .int .i64 v1, .int .i64 v2, .int .i64 v3], .int .i64 u, .int .i64 0]) ∧ Below w.heap.size w w' := by
  have R := run_calls { data := #[102, 97, 115, 116] } 2 (some ⟨b, o, none⟩) (some ⟨g, 0, none⟩) c 4 st0 in0 bud w hr hI hT
  refine Calls.mono R ?_
  rintro e w' ⟨x0, x1, x2, x3, hx, rfl, hb⟩
  rw [show runE (ByteArray.mk #[102, 97, 115, 116]).data.toList 2 st0 in0.length (pixI in0) bud = ([v0, v1, v2, v3], u, 0) from h] at hx ⊢
  injection hx with e0 hx
  injection hx with e1 hx
  injection hx with e2 hx
  injection hx with e3 _
  subst e0
  subst e1
  subst e2
  subst e3
  exact ⟨rfl, hb⟩
theorem full_t0 (b o c g : Nat) (w : World) (hr : Kd.C L.k32 w (some ⟨b, o, none⟩) 7 st0) (hI : Kd.C L.k32 w (some ⟨g, 0, none⟩) 4 in0) (hT : LogicTab w) :
    Calls Tryd.prog 20 #[.agg #[.string { data := #[102, 97, 115, 116] }, .int .i64 2, .slice (some ⟨b, o, none⟩) 7 c], .slice (some ⟨g, 0, none⟩) 4 4] w fun e w' => e = .returned (.tuple #[.agg #[.bool true, .bool false, .bool false, .bool false], .int .i64 0]) ∧ Below w.heap.size w w' := by
  have R := full_calls { data := #[102, 97, 115, 116] } 2 (some ⟨b, o, none⟩) (some ⟨g, 0, none⟩) c 4 st0 in0 w hr hI hT (by decide)
  refine Calls.mono R ?_
  rintro e w' ⟨x0, x1, x2, x3, hx, rfl, hb⟩
  rw [show fullE (ByteArray.mk #[102, 97, 115, 116]).data.toList 2 st0 in0.length (pixI in0) = ([true, false, false, false], 0) from raF] at hx ⊢
  injection hx with e0 hx
  injection hx with e1 hx
  injection hx with e2 hx
  injection hx with e3 _
  subst e0
  subst e1
  subst e2
  subst e3
  exact ⟨rfl, hb⟩
set_option maxRecDepth 100000 in
set_option maxHeartbeats 4000000 in
theorem head34_calls (w : World) (hT : LogicTab w) : Calls Tryd.prog 17 #[] w fun e w' => e = .returned (.bool true) ∧ Below w.heap.size w w' := by
  have HT := Lib.hid hT
  clear hT
  go_enter Tryd.func17, Tryd.ntmps17
  go_wp2_with fail
  refine (parse_t0 _).mono ?_
  rintro e w1 ⟨b, o, c, rfl, HC, HS, hb⟩
  have HT1 := Lib.hid (HT.out.below hb)
  have HB := Lib.hid hb
  clear hb HT HS
  go_wp2_with fail
  have bel := below_alloc (below_allocs w1 (.cells #[.string { data := #[102, 97, 115, 116] }, .int .i64 2, .slice (some ⟨b, o, none⟩) 7 c] 24)) (.cells #[.int .i64 100, .int .i64 10, .int .i64 100, .int .i64 0, .int .i64 10, .int .i64 10, .int .i64 10, .int .i64 10, .int .i64 0, .int .i64 0, .int .i64 0, .int .i64 0, .int .i64 1, .int .i64 1, .int .i64 0, .int .i64 0] 55)
  have KF := Lib.hid (blk_alloc (blk_new w1 (.cells #[.string { data := #[102, 97, 115, 116] }, .int .i64 2, .slice (some ⟨b, o, none⟩) 7 c] 24)) (.cells #[.int .i64 100, .int .i64 10, .int .i64 100, .int .i64 0, .int .i64 10, .int .i64 10, .int .i64 10, .int .i64 10, .int .i64 0, .int .i64 0, .int .i64 0, .int .i64 0, .int .i64 1, .int .i64 1, .int .i64 0, .int .i64 0] 55))
  have HI := Lib.hid (px_block (l := in0) (blk_two w1 (.cells #[.string { data := #[102, 97, 115, 116] }, .int .i64 2, .slice (some ⟨b, o, none⟩) 7 c] 24) #[.int .i64 100, .int .i64 10, .int .i64 100, .int .i64 0, .int .i64 10, .int .i64 10, .int .i64 10, .int .i64 10, .int .i64 0, .int .i64 0, .int .i64 0, .int .i64 0, .int .i64 1, .int .i64 1, .int .i64 0, .int .i64 0] 55) (by decide))
  have HC0 := Lib.hid (Kd.C_below HC.out bel)
  have HT0 := Lib.hid (HT1.out.below bel)
  have HB0 := Lib.hid (below_step HB.out bel)
  clear bel HC HT1 HB
  generalize (w1.alloc (.cells #[.string { data := #[102, 97, 115, 116] }, .int .i64 2, .slice (some ⟨b, o, none⟩) 7 c] 24)).alloc (.cells #[.int .i64 100, .int .i64 10, .int .i64 100, .int .i64 0, .int .i64 10, .int .i64 10, .int .i64 10, .int .i64 10, .int .i64 0, .int .i64 0, .int .i64 0, .int .i64 0, .int .i64 1, .int .i64 1, .int .i64 0, .int .i64 0] 55) = W at KF HI HC0 HT0 HB0 ⊢
  generalize w1.heap.size + 1 = N1 at HI ⊢
  generalize w1.heap.size = N0 at KF ⊢
  have KF0 := KF
  have HI0 := Lib.hid (show Kd.C L.k32 W (some ⟨N1, 0, none⟩) 4 in0 from HI.out)
  clear KF HI
  refine (run_t0 ra24 b o c _ _ HC0.out HI0.out HT0.out).mono ?_
  rintro e vA ⟨rfl, hb⟩
  have KFAx := Lib.hid (blk_below KF0.out hb)
  have HCAx := Lib.hid (Kd.C_below HC0.out hb)
  have HIAx := Lib.hid (Kd.C_below HI0.out hb)
  have HTAx := Lib.hid (HT0.out.below hb)
  have HBAx := Lib.hid (below_step HB0.out hb)
  clear KF0 HC0 HI0 HT0 HB0 
  clear hb
  have f0 := blk_cell KFAx.out 0
  have f1 := blk_cell KFAx.out 1
  have f2 := blk_cell KFAx.out 2
  have lF := blk_lt KFAx.out
  go_wp2_with fail
  clear f0 f1 f2 lF
  have bel := below_allocs vA (.cells #[.int .i64 1, .int .i64 0, .int .i64 0, .int .i64 0] 44)
  have KAAy := Lib.hid (blk_new vA (.cells #[.int .i64 1, .int .i64 0, .int .i64 0, .int .i64 0] 44))
  have KFAy := Lib.hid (blk_below KFAx.out bel)
  have HCAy := Lib.hid (Kd.C_below HCAx.out bel)
  have HIAy := Lib.hid (Kd.C_below HIAx.out bel)
  have HTAy := Lib.hid (HTAx.out.below bel)
  have HBAy := Lib.hid (below_step HBAx.out bel)
  clear KFAx HCAx HIAx HTAx HBAx 
  clear bel
  generalize vA.alloc (.cells #[.int .i64 1, .int .i64 0, .int .i64 0, .int .i64 0] 44) = WA at KFAy HCAy HIAy HTAy HBAy KAAy ⊢
  generalize vA.heap.size = NA at KAAy ⊢
  refine (run_t0 ra17 b o c _ _ HCAy.out HIAy.out HTAy.out).mono ?_
  rintro e vB ⟨rfl, hb⟩
  have KFBx := Lib.hid (blk_below KFAy.out hb)
  have HCBx := Lib.hid (Kd.C_below HCAy.out hb)
  have HIBx := Lib.hid (Kd.C_below HIAy.out hb)
  have HTBx := Lib.hid (HTAy.out.below hb)
  have HBBx := Lib.hid (below_step HBAy.out hb)
  have KABx := Lib.hid (blk_below KAAy.out hb)
  clear KFAy HCAy HIAy HTAy HBAy KAAy
  clear hb
  have f0 := blk_cell KFBx.out 0
  have f1 := blk_cell KFBx.out 1
  have f2 := blk_cell KFBx.out 2
  have lF := blk_lt KFBx.out
  go_wp2_with fail
  clear f0 f1 f2 lF
  have bel := below_allocs vB (.cells #[.int .i64 2, .int .i64 0, .int .i64 2, .int .i64 0] 44)
  have KBBy := Lib.hid (blk_new vB (.cells #[.int .i64 2, .int .i64 0, .int .i64 2, .int .i64 0] 44))
  have KFBy := Lib.hid (blk_below KFBx.out bel)
  have HCBy := Lib.hid (Kd.C_below HCBx.out bel)
  have HIBy := Lib.hid (Kd.C_below HIBx.out bel)
  have HTBy := Lib.hid (HTBx.out.below bel)
  have HBBy := Lib.hid (below_step HBBx.out bel)
  have KABy := Lib.hid (blk_below KABx.out bel)
  clear KFBx HCBx HIBx HTBx HBBx KABx
  clear bel
  generalize vB.alloc (.cells #[.int .i64 2, .int .i64 0, .int .i64 2, .int .i64 0] 44) = WB at KFBy HCBy HIBy HTBy HBBy KABy KBBy ⊢
  generalize vB.heap.size = NB at KBBy ⊢
  refine (run_t0 ra13 b o c _ _ HCBy.out HIBy.out HTBy.out).mono ?_
  rintro e vC ⟨rfl, hb⟩
  have KFCx := Lib.hid (blk_below KFBy.out hb)
  have HCCx := Lib.hid (Kd.C_below HCBy.out hb)
  have HICx := Lib.hid (Kd.C_below HIBy.out hb)
  have HTCx := Lib.hid (HTBy.out.below hb)
  have HBCx := Lib.hid (below_step HBBy.out hb)
  have KACx := Lib.hid (blk_below KABy.out hb)
  have KBCx := Lib.hid (blk_below KBBy.out hb)
  clear KFBy HCBy HIBy HTBy HBBy KABy KBBy
  clear hb
  have f0 := blk_cell KFCx.out 0
  have f1 := blk_cell KFCx.out 1
  have f2 := blk_cell KFCx.out 2
  have lF := blk_lt KFCx.out
  go_wp2_with fail
  clear f0 f1 f2 lF
  have bel := below_allocs vC (.cells #[.int .i64 2, .int .i64 2, .int .i64 2, .int .i64 2] 44)
  have KCCy := Lib.hid (blk_new vC (.cells #[.int .i64 2, .int .i64 2, .int .i64 2, .int .i64 2] 44))
  have KFCy := Lib.hid (blk_below KFCx.out bel)
  have HCCy := Lib.hid (Kd.C_below HCCx.out bel)
  have HICy := Lib.hid (Kd.C_below HICx.out bel)
  have HTCy := Lib.hid (HTCx.out.below bel)
  have HBCy := Lib.hid (below_step HBCx.out bel)
  have KACy := Lib.hid (blk_below KACx.out bel)
  have KBCy := Lib.hid (blk_below KBCx.out bel)
  clear KFCx HCCx HICx HTCx HBCx KACx KBCx
  clear bel
  generalize vC.alloc (.cells #[.int .i64 2, .int .i64 2, .int .i64 2, .int .i64 2] 44) = WC at KFCy HCCy HICy HTCy HBCy KACy KBCy KCCy ⊢
  generalize vC.heap.size = NC at KCCy ⊢
  refine (run_t0 ra14 b o c _ _ HCCy.out HICy.out HTCy.out).mono ?_
  rintro e vD ⟨rfl, hb⟩
  have KFDx := Lib.hid (blk_below KFCy.out hb)
  have HCDx := Lib.hid (Kd.C_below HCCy.out hb)
  have HIDx := Lib.hid (Kd.C_below HICy.out hb)
  have HTDx := Lib.hid (HTCy.out.below hb)
  have HBDx := Lib.hid (below_step HBCy.out hb)
  have KADx := Lib.hid (blk_below KACy.out hb)
  have KBDx := Lib.hid (blk_below KBCy.out hb)
  have KCDx := Lib.hid (blk_below KCCy.out hb)
  clear KFCy HCCy HICy HTCy HBCy KACy KBCy KCCy
  clear hb
  have f0 := blk_cell KFDx.out 0
  have f1 := blk_cell KFDx.out 1
  have f2 := blk_cell KFDx.out 2
  have lF := blk_lt KFDx.out
  go_wp2_with fail
  clear f0 f1 f2 lF
  have bel := below_allocs vD (.cells #[.int .i64 2, .int .i64 0, .int .i64 2, .int .i64 2] 44)
  have KDDy := Lib.hid (blk_new vD (.cells #[.int .i64 2, .int .i64 0, .int .i64 2, .int .i64 2] 44))
  have KFDy := Lib.hid (blk_below KFDx.out bel)
  have HCDy := Lib.hid (Kd.C_below HCDx.out bel)
  have HIDy := Lib.hid (Kd.C_below HIDx.out bel)
  have HTDy := Lib.hid (HTDx.out.below bel)
  have HBDy := Lib.hid (below_step HBDx.out bel)
  have KADy := Lib.hid (blk_below KADx.out bel)
  have KBDy := Lib.hid (blk_below KBDx.out bel)
  have KCDy := Lib.hid (blk_below KCDx.out bel)
  clear KFDx HCDx HIDx HTDx HBDx KADx KBDx KCDx
  clear bel
  generalize vD.alloc (.cells #[.int .i64 2, .int .i64 0, .int .i64 2, .int .i64 2] 44) = WD at KFDy HCDy HIDy HTDy HBDy KADy KBDy KCDy KDDy ⊢
  generalize vD.heap.size = ND at KDDy ⊢
  refine (full_t0 b o c _ _ HCDy.out HIDy.out HTDy.out).mono ?_
  rintro e vM ⟨rfl, hb⟩
  have KFMx := Lib.hid (blk_below KFDy.out hb)
  have HCMx := Lib.hid (Kd.C_below HCDy.out hb)
  have HIMx := Lib.hid (Kd.C_below HIDy.out hb)
  have HTMx := Lib.hid (HTDy.out.below hb)
  have HBMx := Lib.hid (below_step HBDy.out hb)
  have KAMx := Lib.hid (blk_below KADy.out hb)
  have KBMx := Lib.hid (blk_below KBDy.out hb)
  have KCMx := Lib.hid (blk_below KCDy.out hb)
  have KDMx := Lib.hid (blk_below KDDy.out hb)
  clear KFDy HCDy HIDy HTDy HBDy KADy KBDy KCDy KDDy
  clear hb
  have f0 := blk_cell KFMx.out 0
  have f1 := blk_cell KFMx.out 1
  have f2 := blk_cell KFMx.out 2
  have a0 := blk_cell KAMx.out 0
  have a1 := blk_cell KAMx.out 1
  have a2 := blk_cell KAMx.out 2
  have a3 := blk_cell KAMx.out 3
  have b0 := blk_cell KBMx.out 0
  have b1 := blk_cell KBMx.out 1
  have b2 := blk_cell KBMx.out 2
  have b3 := blk_cell KBMx.out 3
  have c0 := blk_cell KCMx.out 0
  have c1 := blk_cell KCMx.out 1
  have c2 := blk_cell KCMx.out 2
  have c3 := blk_cell KCMx.out 3
  have d0 := blk_cell KDMx.out 0
  have d1 := blk_cell KDMx.out 1
  have d2 := blk_cell KDMx.out 2
  have d3 := blk_cell KDMx.out 3
  have q1 := eq24
  have q2 := eq17
  have q3 := eq13
  have q4 := eq14
  have q5 := eqFl
  have lA := blk_lt KAMx.out
  have lB := blk_lt KBMx.out
  have lC := blk_lt KCMx.out
  have lD := blk_lt KDMx.out
  go_wp2_with fail
  go_ret
  exact ⟨rfl, below_alloc HBMx.out _⟩
end Go.Proofs.YtamabdijeklgjaaDoor.Ext
