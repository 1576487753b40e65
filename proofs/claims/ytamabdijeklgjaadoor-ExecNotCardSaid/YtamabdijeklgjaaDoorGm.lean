/- Several texts in one (ExecH ExecI ExecJ ExecL). -/
import Derived.Test.YtamabdijeklgjaaDoorGl
import Derived.Lib.Hide
import Derived.Test.YtamabdijeklgjaaDoorL3
/- The chapter's examples (law 34's head), walked. -/
namespace Go.Proofs.YtamabdijeklgjaaDoor.Ext
open Go Go.Proofs Go.RowKit Go.Proofs.YtamabdijeklgjaaDoorW.PrintWords
set_option linter.unusedVariables false
set_option linter.unusedSimpArgs false

def in0 : List FS := [⟨100, 10, 100, 0⟩, ⟨10, 10, 10, 10⟩, ⟨0, 0, 0, 0⟩, ⟨1, 1, 0, 0⟩]
theorem ra24 : runE [102, 97, 115, 116] 2 st0 4 (pixI in0) 24 = ([1, 0, 0, 0], 24, 0) := by kernel_rfl
theorem ra17 : runE [102, 97, 115, 116] 2 st0 4 (pixI in0) 17 = ([2, 0, 2, 0], 17, 0) := by kernel_rfl
theorem ra13 : runE [102, 97, 115, 116] 2 st0 4 (pixI in0) 13 = ([2, 2, 2, 2], 13, 0) := by kernel_rfl
theorem ra14 : runE [102, 97, 115, 116] 2 st0 4 (pixI in0) 14 = ([2, 0, 2, 2], 14, 0) := by kernel_rfl
theorem raF : fullE [102, 97, 115, 116] 2 st0 4 (pixI in0) = ([true, false, false, false], 0) := by kernel_rfl
theorem eq24 (k : Nat) (w : World) : (Op.equalIn (k + 2) 44 (.agg #[.int .i64 1, .int .i64 0, .int .i64 0, .int .i64 0]) (.agg #[.int .i64 1, .int .i64 0, .int .i64 0, .int .i64 0])).run Tryd.prog w = .ok true w := by kernel_rfl
theorem eq17 (k : Nat) (w : World) : (Op.equalIn (k + 2) 44 (.agg #[.int .i64 2, .int .i64 0, .int .i64 2, .int .i64 0]) (.agg #[.int .i64 2, .int .i64 0, .int .i64 2, .int .i64 0])).run Tryd.prog w = .ok true w := by kernel_rfl
theorem eq13 (k : Nat) (w : World) : (Op.equalIn (k + 2) 44 (.agg #[.int .i64 2, .int .i64 2, .int .i64 2, .int .i64 2]) (.agg #[.int .i64 2, .int .i64 2, .int .i64 2, .int .i64 2])).run Tryd.prog w = .ok true w := by kernel_rfl
theorem eq14 (k : Nat) (w : World) : (Op.equalIn (k + 2) 44 (.agg #[.int .i64 2, .int .i64 0, .int .i64 2, .int .i64 2]) (.agg #[.int .i64 2, .int .i64 0, .int .i64 2, .int .i64 2])).run Tryd.prog w = .ok true w := by kernel_rfl
theorem eqFl (k : Nat) (w : World) : (Op.equalIn (k + 2) 48 (.agg #[.bool true, .bool false, .bool false, .bool false]) (.agg #[.bool true, .bool false, .bool false, .bool false])).run Tryd.prog w = .ok true w := by kernel_rfl
end Go.Proofs.YtamabdijeklgjaaDoor.Ext

/- The chapter's examples (law 34's head), walked. -/
namespace Go.Proofs.YtamabdijeklgjaaDoor.Ext
open Go Go.Proofs Go.RowKit Go.Proofs.YtamabdijeklgjaaDoorW.PrintWords
set_option linter.unusedVariables false
set_option linter.unusedSimpArgs false

theorem px_block {w : World} {g : Nat} {l : List FS} {t : TypeId} (h : w.heap[g]? = some (.cells (encFS l).toArray t (0, 0))) (hl : l.length ≤ 9223372036854775807) : Kd.C L.k32 w (some ⟨g, 0, none⟩) l.length l :=
  ⟨rfl, hl, fun _ => ⟨⟨g, 0, none⟩, rfl, fun j p hj => ⟨stepC p, rfl, L.k32_mk w p, fun i u hu => by
    have := encFS_get l j p hj i u hu
    rw [Addr.add_mid, Nat.zero_add]
    rw [blk_cell h]
    show (encFS l).toArray[j * 4 + i]? = some u
    simpa using this⟩⟩⟩
theorem run_t0 {bud v0 v1 v2 v3 u : Int} (h : runE [102, 97, 115, 116] 2 st0 4 (pixI in0) bud = ([v0, v1, v2, v3], u, 0)) (b o c g : Nat) (w : World) (hr : Kd.C L.k32 w (some ⟨b, o, none⟩) 7 st0) (hI : Kd.C L.k32 w (some ⟨g, 0, none⟩) 4 in0) (hT : LogicTab w) :
    Calls Tryd.prog 19 #[.agg #[.string { data := #[102, 97, 115, 116] }, .int .i64 2, .slice (some ⟨b, o, none⟩) 7 c], .slice (some ⟨g, 0, none⟩) 4 4, .int .i64 bud] w fun e w' => e = .returned (.tuple #[.agg #[.int .i64 v0, .int .i64 v1, .int .i64 v2, .int .i64 v3], .int .i64 u, .int .i64 0]) ∧ Below w.heap.size w w' := by
  have R := run_calls { data := #[102, 97, 115, 116] } 2 (some ⟨b, o, none⟩) (some ⟨g, 0, none⟩) c 4 st0 in0 bud w hr hI hT
  refine Calls.mono R ?_
  rintro e w' ⟨x0, x1, x2, x3, hx, rfl, hb⟩
  rw [show runE (ByteArray.mk #[102, 97, 115, 116]).data.toList 2 st0 in0.length (pixI in0) bud = ([v0, v1, v2, v3], u, 0) from h] at hx ⊢
  injection hx with e0 hx
  injection hx with e1 hx
  injection hx with e2 hx
  injection hx with e3 _
  subst e0
  subst e1
  subst e2
  subst e3
  exact ⟨rfl, hb⟩
theorem full_t0 (b o c g : Nat) (w : World) (hr : Kd.C L.k32 w (some ⟨b, o, none⟩) 7 st0) (hI : Kd.C L.k32 w (some ⟨g, 0, none⟩) 4 in0) (hT : LogicTab w) :
    Calls Tryd.prog 20 #[.agg #[.string { data := #[102, 97, 115, 116] }, .int .i64 2, .slice (some ⟨b, o, none⟩) 7 c], .slice (some ⟨g, 0, none⟩) 4 4] w fun e w' => e = .returned (.tuple #[.agg #[.bool true, .bool false, .bool false, .bool false], .int .i64 0]) ∧ Below w.heap.size w w' := by
  have R := full_calls { data := #[102, 97, 115, 116] } 2 (some ⟨b, o, none⟩) (some ⟨g, 0, none⟩) c 4 st0 in0 w hr hI hT (by decide)
  refine Calls.mono R ?_
  rintro e w' ⟨x0, x1, x2, x3, hx, rfl, hb⟩
  rw [show fullE (ByteArray.mk #[102, 97, 115, 116]).data.toList 2 st0 in0.length (pixI in0) = ([true, false, false, false], 0) from raF] at hx ⊢
  injection hx with e0 hx
  injection hx with e1 hx
  injection hx with e2 hx
  injection hx with e3 _
  subst e0
  subst e1
  subst e2
  subst e3
  exact ⟨rfl, hb⟩
set_option maxRecDepth 100000 in
set_option maxHeartbeats 4000000 in
theorem head34_calls (w : World) (hT : LogicTab w) : Calls Tryd.prog 17 #[] w fun e w' => e = .returned (.bool true) ∧ Below w.heap.size w w' := by
  have HT := Lib.hid hT
  clear hT
  go_enter Tryd.func17, Tryd.ntmps17
  go_wp2_with fail
  refine (parse_t0 _).mono ?_
  rintro e w1 ⟨b, o, c, rfl, HC, HS, hb⟩
  have HT1 := Lib.hid (HT.out.below hb)
  have HB := Lib.hid hb
  clear hb HT HS
  go_wp2_with fail
  have bel := below_alloc (below_allocs w1 (.cells #[.string { data := #[102, 97, 115, 116] }, .int .i64 2, .slice (some ⟨b, o, none⟩) 7 c] 24)) (.cells #[.int .i64 100, .int .i64 10, .int .i64 100, .int .i64 0, .int .i64 10, .int .i64 10, .int .i64 10, .int .i64 10, .int .i64 0, .int .i64 0, .int .i64 0, .int .i64 0, .int .i64 1, .int .i64 1, .int .i64 0, .int .i64 0] 55)
  have KF := Lib.hid (blk_alloc (blk_new w1 (.cells #[.string { data := #[102, 97, 115, 116] }, .int .i64 2, .slice (some ⟨b, o, none⟩) 7 c] 24)) (.cells #[.int .i64 100, .int .i64 10, .int .i64 100, .int .i64 0, .int .i64 10, .int .i64 10, .int .i64 10, .int .i64 10, .int .i64 0, .int .i64 0, .int .i64 0, .int .i64 0, .int .i64 1, .int .i64 1, .int .i64 0, .int .i64 0] 55))
  have HI := Lib.hid (px_block (l := in0) (blk_two w1 (.cells #[.string { data := #[102, 97, 115, 116] }, .int .i64 2, .slice (some ⟨b, o, none⟩) 7 c] 24) #[.int .i64 100, .int .i64 10, .int .i64 100, .int .i64 0, .int .i64 10, .int .i64 10, .int .i64 10, .int .i64 10, .int .i64 0, .int .i64 0, .int .i64 0, .int .i64 0, .int .i64 1, .int .i64 1, .int .i64 0, .int .i64 0] 55) (by decide))
  have HC0 := Lib.hid (Kd.C_below HC.out bel)
  have HT0 := Lib.hid (HT1.out.below bel)
  have HB0 := Lib.hid (below_step HB.out bel)
  clear bel HC HT1 HB
  generalize (w1.alloc (.cells #[.string { data := #[102, 97, 115, 116] }, .int .i64 2, .slice (some ⟨b, o, none⟩) 7 c] 24)).alloc (.cells #[.int .i64 100, .int .i64 10, .int .i64 100, .int .i64 0, .int .i64 10, .int .i64 10, .int .i64 10, .int .i64 10, .int .i64 0, .int .i64 0, .int .i64 0, .int .i64 0, .int .i64 1, .int .i64 1, .int .i64 0, .int .i64 0] 55) = W at KF HI HC0 HT0 HB0 ⊢
  generalize w1.heap.size + 1 = N1 at HI ⊢
  generalize w1.heap.size = N0 at KF ⊢
  have KF0 := KF
  have HI0 := Lib.hid (show Kd.C L.k32 W (some ⟨N1, 0, none⟩) 4 in0 from HI.out)
  clear KF HI
  refine (run_t0 ra24 b o c _ _ HC0.out HI0.out HT0.out).mono ?_
  rintro e vA ⟨rfl, hb⟩
  have KFAx := Lib.hid (blk_below KF0.out hb)
  have HCAx := Lib.hid (Kd.C_below HC0.out hb)
  have HIAx := Lib.hid (Kd.C_below HI0.out hb)
  have HTAx := Lib.hid (HT0.out.below hb)
  have HBAx := Lib.hid (below_step HB0.out hb)
  clear KF0 HC0 HI0 HT0 HB0 
  clear hb
  have f0 := blk_cell KFAx.out 0
  have f1 := blk_cell KFAx.out 1
  have f2 := blk_cell KFAx.out 2
  have lF := blk_lt KFAx.out
  go_wp2_with fail
  clear f0 f1 f2 lF
  have bel := below_allocs vA (.cells #[.int .i64 1, .int .i64 0, .int .i64 0, .int .i64 0] 44)
  have KAAy := Lib.hid (blk_new vA (.cells #[.int .i64 1, .int .i64 0, .int .i64 0, .int .i64 0] 44))
  have KFAy := Lib.hid (blk_below KFAx.out bel)
  have HCAy := Lib.hid (Kd.C_below HCAx.out bel)
  have HIAy := Lib.hid (Kd.C_below HIAx.out bel)
  have HTAy := Lib.hid (HTAx.out.below bel)
  have HBAy := Lib.hid (below_step HBAx.out bel)
  clear KFAx HCAx HIAx HTAx HBAx 
  clear bel
  generalize vA.alloc (.cells #[.int .i64 1, .int .i64 0, .int .i64 0, .int .i64 0] 44) = WA at KFAy HCAy HIAy HTAy HBAy KAAy ⊢
  generalize vA.heap.size = NA at KAAy ⊢
  refine (run_t0 ra17 b o c _ _ HCAy.out HIAy.out HTAy.out).mono ?_
  rintro e vB ⟨rfl, hb⟩
  have KFBx := Lib.hid (blk_below KFAy.out hb)
  have HCBx := Lib.hid (Kd.C_below HCAy.out hb)
  have HIBx := Lib.hid (Kd.C_below HIAy.out hb)
  have HTBx := Lib.hid (HTAy.out.below hb)
  have HBBx := Lib.hid (below_step HBAy.out hb)
  have KABx := Lib.hid (blk_below KAAy.out hb)
  clear KFAy HCAy HIAy HTAy HBAy KAAy
  clear hb
  have f0 := blk_cell KFBx.out 0
  have f1 := blk_cell KFBx.out 1
  have f2 := blk_cell KFBx.out 2
  have lF := blk_lt KFBx.out
  go_wp2_with fail
  clear f0 f1 f2 lF
  have bel := below_allocs vB (.cells #[.int .i64 2, .int .i64 0, .int .i64 2, .int .i64 0] 44)
  have KBBy := Lib.hid (blk_new vB (.cells #[.int .i64 2, .int .i64 0, .int .i64 2, .int .i64 0] 44))
  have KFBy := Lib.hid (blk_below KFBx.out bel)
  have HCBy := Lib.hid (Kd.C_below HCBx.out bel)
  have HIBy := Lib.hid (Kd.C_below HIBx.out bel)
  have HTBy := Lib.hid (HTBx.out.below bel)
  have HBBy := Lib.hid (below_step HBBx.out bel)
  have KABy := Lib.hid (blk_below KABx.out bel)
  clear KFBx HCBx HIBx HTBx HBBx KABx
  clear bel
  generalize vB.alloc (.cells #[.int .i64 2, .int .i64 0, .int .i64 2, .int .i64 0] 44) = WB at KFBy HCBy HIBy HTBy HBBy KABy KBBy ⊢
  generalize vB.heap.size = NB at KBBy ⊢
  refine (run_t0 ra13 b o c _ _ HCBy.out HIBy.out HTBy.out).mono ?_
  rintro e vC ⟨rfl, hb⟩
  have KFCx := Lib.hid (blk_below KFBy.out hb)
  have HCCx := Lib.hid (Kd.C_below HCBy.out hb)
  have HICx := Lib.hid (Kd.C_below HIBy.out hb)
  have HTCx := Lib.hid (HTBy.out.below hb)
  have HBCx := Lib.hid (below_step HBBy.out hb)
  have KACx := Lib.hid (blk_below KABy.out hb)
  have KBCx := Lib.hid (blk_below KBBy.out hb)
  clear KFBy HCBy HIBy HTBy HBBy KABy KBBy
  clear hb
  have f0 := blk_cell KFCx.out 0
  have f1 := blk_cell KFCx.out 1
  have f2 := blk_cell KFCx.out 2
  have lF := blk_lt KFCx.out
  go_wp2_with fail
  clear f0 f1 f2 lF
  have bel := below_allocs vC (.cells #[.int .i64 2, .int .i64 2, .int .i64 2, .int .i64 2] 44)
  have KCCy := Lib.hid (blk_new vC (.cells #[.int .i64 2, .int .i64 2, .int .i64 2, .int .i64 2] 44))
  have KFCy := Lib.hid (blk_below KFCx.out bel)
  have HCCy := Lib.hid (Kd.C_below HCCx.out bel)
  have HICy := Lib.hid (Kd.C_below HICx.out bel)
  have HTCy := Lib.hid (HTCx.out.below bel)
  have HBCy := Lib.hid (below_step HBCx.out bel)
  have KACy := Lib.hid (blk_below KACx.out bel)
  have KBCy := Lib.hid (blk_below KBCx.out bel)
  clear KFCx HCCx HICx HTCx HBCx KACx KBCx
  clear bel
  generalize vC.alloc (.cells #[.int .i64 2, .int .i64 2, .int .i64 2, .int .i64 2] 44) = WC at KFCy HCCy HICy HTCy HBCy KACy KBCy KCCy ⊢
  generalize vC.heap.size = NC at KCCy ⊢
  refine (run_t0 ra14 b o c _ _ HCCy.out HICy.out HTCy.out).mono ?_
  rintro e vD ⟨rfl, hb⟩
  have KFDx := Lib.hid (blk_below KFCy.out hb)
  have HCDx := Lib.hid (Kd.C_below HCCy.out hb)
  have HIDx := Lib.hid (Kd.C_below HICy.out hb)
  have HTDx := Lib.hid (HTCy.out.below hb)
  have HBDx := Lib.hid (below_step HBCy.out hb)
  have KADx := Lib.hid (blk_below KACy.out hb)
  have KBDx := Lib.hid (blk_below KBCy.out hb)
  have KCDx := Lib.hid (blk_below KCCy.out hb)
  clear KFCy HCCy HICy HTCy HBCy KACy KBCy KCCy
  clear hb
  have f0 := blk_cell KFDx.out 0
  have f1 := blk_cell KFDx.out 1
  have f2 := blk_cell KFDx.out 2
  have lF := blk_lt KFDx.out
  go_wp2_with fail
  clear f0 f1 f2 lF
  have bel := below_allocs vD (.cells #[.int .i64 2, .int .i64 0, .int .i64 2, .int .i64 2] 44)
  have KDDy := Lib.hid (blk_new vD (.cells #[.int .i64 2, .int .i64 0, .int .i64 2, .int .i64 2] 44))
  have KFDy := Lib.hid (blk_below KFDx.out bel)
  have HCDy := Lib.hid (Kd.C_below HCDx.out bel)
  have HIDy := Lib.hid (Kd.C_below HIDx.out bel)
  have HTDy := Lib.hid (HTDx.out.below bel)
  have HBDy := Lib.hid (below_step HBDx.out bel)
  have KADy := Lib.hid (blk_below KADx.out bel)
  have KBDy := Lib.hid (blk_below KBDx.out bel)
  have KCDy := Lib.hid (blk_below KCDx.out bel)
  clear KFDx HCDx HIDx HTDx HBDx KADx KBDx KCDx
  clear bel
  generalize vD.alloc (.cells #[.int .i64 2, .int .i64 0, .int .i64 2, .int .i64 2] 44) = WD at KFDy HCDy HIDy HTDy HBDy KADy KBDy KCDy KDDy ⊢
  generalize vD.heap.size = ND at KDDy ⊢
  refine (full_t0 b o c _ _ HCDy.out HIDy.out HTDy.out).mono ?_
  rintro e vM ⟨rfl, hb⟩
  have KFMx := Lib.hid (blk_below KFDy.out hb)
  have HCMx := Lib.hid (Kd.C_below HCDy.out hb)
  have HIMx := Lib.hid (Kd.C_below HIDy.out hb)
  have HTMx := Lib.hid (HTDy.out.below hb)
  have HBMx := Lib.hid (below_step HBDy.out hb)
  have KAMx := Lib.hid (blk_below KADy.out hb)
  have KBMx := Lib.hid (blk_below KBDy.out hb)
  have KCMx := Lib.hid (blk_below KCDy.out hb)
  have KDMx := Lib.hid (blk_below KDDy.out hb)
  clear KFDy HCDy HIDy HTDy HBDy KADy KBDy KCDy KDDy
  clear hb
  have f0 := blk_cell KFMx.out 0
  have f1 := blk_cell KFMx.out 1
  have f2 := blk_cell KFMx.out 2
  have a0 := blk_cell KAMx.out 0
  have a1 := blk_cell KAMx.out 1
  have a2 := blk_cell KAMx.out 2
  have a3 := blk_cell KAMx.out 3
  have b0 := blk_cell KBMx.out 0
  have b1 := blk_cell KBMx.out 1
  have b2 := blk_cell KBMx.out 2
  have b3 := blk_cell KBMx.out 3
  have c0 := blk_cell KCMx.out 0
  have c1 := blk_cell KCMx.out 1
  have c2 := blk_cell KCMx.out 2
  have c3 := blk_cell KCMx.out 3
  have d0 := blk_cell KDMx.out 0
  have d1 := blk_cell KDMx.out 1
  have d2 := blk_cell KDMx.out 2
  have d3 := blk_cell KDMx.out 3
  have q1 := eq24
  have q2 := eq17
  have q3 := eq13
  have q4 := eq14
  have q5 := eqFl
  have lA := blk_lt KAMx.out
  have lB := blk_lt KBMx.out
  have lC := blk_lt KCMx.out
  have lD := blk_lt KDMx.out
  go_wp2_with fail
  go_ret
  exact ⟨rfl, below_alloc HBMx.out _⟩
end Go.Proofs.YtamabdijeklgjaaDoor.Ext

/- What the laws on execution ask of the plain answers. -/
namespace Go.Proofs.YtamabdijeklgjaaDoor.Ext
open Go Go.Proofs Go.RowKit Go.Proofs.YtamabdijeklgjaaDoorW.PrintWords
set_option linter.unusedVariables false

theorem last_mask {P : Int → Prop} {l : List FS} {MS : List Bool} {V : List Int} (hm : masksL l [] = some MS) (hg : MS.getLast? = some true) (h : Msk P MS (MS.length * 4) V) : ∀ j, j < 4 → P (V.getD ((l.length - 1) * 4 + j) 0) := by
  intro j hj
  obtain ⟨t, ht, htl, _⟩ := masksL_ext l [] MS hm
  rw [List.nil_append] at ht
  subst ht
  rw [List.getLast?_eq_getElem?] at hg
  have hl := (List.getElem?_eq_some_iff.1 hg).1
  refine h _ (by omega) ?_
  rw [show ((l.length - 1) * 4 + j) / 4 = MS.length - 1 by omega]
  exact hg
theorem last_vals {V : List Int} {n : Nat} (h : V.length = n * 4) (h1 : 1 ≤ n) : (V.drop ((n - 1) * 4)).take 4 = [V.getD ((n - 1) * 4) 0, V.getD ((n - 1) * 4 + 1) 0, V.getD ((n - 1) * 4 + 2) 0, V.getD ((n - 1) * 4 + 3) 0] :=
  drop_four (by omega)
/-- valid for a run, but for the budget -/
def RunOk (n : List UInt8) (v : Int) (l : List FS) (ni : Nat) (I : List Int) : Prop := validB n v l = true ∧ ni = 4 ∧ I.all (fun n => !farE n) = true
theorem run_bad {n : List UInt8} {v : Int} {l : List FS} {ni : Nat} {I : List Int} (h : ¬ RunOk n v l ni I) (b : Int) : runE n v l ni I b = ([0, 0, 0, 0], 0, 1) := by
  unfold runE
  rw [if_neg (fun k => h ⟨k.1, k.2.1, k.2.2.2⟩)]
theorem run_ok {n : List UInt8} {v : Int} {l : List FS} {ni : Nat} {I : List Int} (h : RunOk n v l ni I) {b : Int} (hb : 0 ≤ b) : Ends (runE n v l ni I b) l.length (stepsE I b l 0 (startE l.length)) := by
  unfold runE Ends
  rw [if_pos ⟨h.1, h.2.1, hb, h.2.2⟩]
  cases stepsE I b l 0 (startE l.length) <;> rfl
theorem run_range {n : List UInt8} {v : Int} {l : List FS} {ni : Nat} {I : List Int} (h : RunOk n v l ni I) {b : Int} (hb : 0 ≤ b) (hs : stepsE I b l 0 (startE l.length) = none) : runE n v l ni I b = ([0, 0, 0, 0], 0, 9) := by
  have := run_ok h hb
  rw [hs] at this
  exact this
theorem run_some {n : List UInt8} {v : Int} {l : List FS} {ni : Nat} {I : List Int} (h : RunOk n v l ni I) {b : Int} (hb : 0 ≤ b) {y : EX} (hs : stepsE I b l 0 (startE l.length) = some y) :
    runE n v l ni I b = ([y.v.getD ((l.length - 1) * 4) 0, y.v.getD ((l.length - 1) * 4 + 1) 0, y.v.getD ((l.length - 1) * 4 + 2) 0, y.v.getD ((l.length - 1) * 4 + 3) 0], y.used, 0) := by
  have h1 := run_ok h hb
  rw [hs] at h1
  obtain ⟨_, _, _, hl1, _, MS, hMS, _⟩ := valid_parts h.1
  unfold Ends at h1
  simp only at h1
  rw [h1, last_vals (steps_bit3 hMS hs).1 hl1]
theorem full_of {n : List UInt8} {v : Int} {l : List FS} {ni : Nat} {I : List Int} {r : List Int} {u e : Int} (h : runE n v l ni I (4 * (l.length : Int)) = (r, u, e)) : fullE n v l ni I = if e = 0 then (r.map (· == 1), 0) else ([false, false, false, false], e) := by
  unfold fullE
  rw [h]
theorem enough_cases (n : List UInt8) (v : Int) (l : List FS) (ni : Nat) (I : List Int) (more : Int) (hm : 0 ≤ more) :
    (runE n v l ni I (4 * (l.length : Int) + more) = ([0, 0, 0, 0], 0, 1) ∧ fullE n v l ni I = ([false, false, false, false], 1) ∧ runE n v l ni I 0 = ([0, 0, 0, 0], 0, 1)) ∨
    (runE n v l ni I (4 * (l.length : Int) + more) = ([0, 0, 0, 0], 0, 9) ∧ fullE n v l ni I = ([false, false, false, false], 9) ∧ runE n v l ni I 0 = ([2, 2, 2, 2], 0, 0)) ∨
    (∃ a0 a1 a2 a3 u : Int, Bit2 a0 ∧ Bit2 a1 ∧ Bit2 a2 ∧ Bit2 a3 ∧ runE n v l ni I (4 * (l.length : Int) + more) = ([a0, a1, a2, a3], u, 0) ∧ fullE n v l ni I = ([a0 == 1, a1 == 1, a2 == 1, a3 == 1], 0) ∧ runE n v l ni I 0 = ([2, 2, 2, 2], 0, 0)) := by
  by_cases hok : RunOk n v l ni I
  · right
    obtain ⟨_, _, _, hl1, _, MS, hMS, hg⟩ := valid_parts hok.1
    have h0 : runE n v l ni I 0 = ([2, 2, 2, 2], 0, 0) := by
      obtain ⟨y, hy, hu, hk⟩ := steps_zero (I := I) hMS
      rw [run_some hok (Int.le_refl 0) hy]
      have k := last_mask hMS hg hk
      have k0 := k 0 (by omega)
      rw [Nat.add_zero] at k0
      rw [k0, k 1 (by omega), k 2 (by omega), k 3 (by omega), hu]
    have hsame : stepsE I (4 * (l.length : Int) + more) l 0 (startE l.length) = stepsE I (4 * (l.length : Int)) l 0 (startE l.length) := steps_enough l 0 _ (by simp [startE]; omega) (by simp [startE]; omega)
    cases hs : stepsE I (4 * (l.length : Int)) l 0 (startE l.length) with
    | none =>
      left
      exact ⟨run_range hok (by omega) (hsame.trans hs), by rw [full_of (run_range hok (by omega) hs)]; rfl, h0⟩
    | some y =>
      right
      have k := last_mask hMS hg (steps_bit2 (by omega) hMS hs)
      have k0 := k 0 (by omega)
      rw [Nat.add_zero] at k0
      exact ⟨_, _, _, _, _, k0, k 1 (by omega), k 2 (by omega), k 3 (by omega), run_some hok (by omega) (hsame.trans hs), by rw [full_of (run_some hok (by omega) hs)]; rfl, h0⟩
  · left
    exact ⟨run_bad hok _, by rw [full_of (run_bad hok _)]; rfl, run_bad hok _⟩
/-- a lesser budget -/
theorem refines_cases (n : List UInt8) (v : Int) (l : List FS) (ni : Nat) (I : List Int) (b1 b2 : Int) (h0 : 0 ≤ b1) (hb : b1 ≤ b2) :
    (runE n v l ni I b1 = ([0, 0, 0, 0], 0, 1) ∧ runE n v l ni I b2 = ([0, 0, 0, 0], 0, 1)) ∨
    (runE n v l ni I b2 = ([0, 0, 0, 0], 0, 9)) ∨
    (validB n v l = true ∧ ∃ a0 a1 a2 a3 c0 c1 c2 c3 : Int, (a0 = 2 ∨ a0 = c0) ∧ (a1 = 2 ∨ a1 = c1) ∧ (a2 = 2 ∨ a2 = c2) ∧ (a3 = 2 ∨ a3 = c3) ∧ runE n v l ni I b1 = ([a0, a1, a2, a3], min b1 (costE l), 0) ∧ runE n v l ni I b2 = ([c0, c1, c2, c3], min b2 (costE l), 0)) := by
  by_cases hok : RunOk n v l ni I
  · right
    obtain ⟨_, _, _, hl1, _, MS, hMS, hg⟩ := valid_parts hok.1
    cases hs : stepsE I b2 l 0 (startE l.length) with
    | none => exact Or.inl (run_range hok (by omega) hs)
    | some y2 =>
      right
      obtain ⟨y1, hy1, hl⟩ := steps_less h0 hb hMS hs
      have u1 := steps_used l 0 _ y1 hy1 (by simp [startE]; omega)
      have u2 := steps_used l 0 _ y2 hs (by simp [startE]; omega)
      have e1 : y1.used = min b1 (costE l) := by rw [u1]; simp [startE]
      have e2 : y2.used = min b2 (costE l) := by rw [u2]; simp [startE]
      have k : ∀ j, j < 4 → y1.v.getD ((l.length - 1) * 4 + j) 0 = 2 ∨ y1.v.getD ((l.length - 1) * 4 + j) 0 = y2.v.getD ((l.length - 1) * 4 + j) 0 := by
        intro j hj
        obtain ⟨t, ht, htl, _⟩ := masksL_ext l [] MS hMS
        rw [List.nil_append] at ht
        subst ht
        rw [List.getLast?_eq_getElem?] at hg
        refine hl.2.2.2 _ (by omega) ?_
        rw [show ((l.length - 1) * 4 + j) / 4 = MS.length - 1 by omega]
        exact hg
      have k0 := k 0 (by omega)
      rw [Nat.add_zero] at k0
      exact ⟨hok.1, _, _, _, _, _, _, _, _, k0, k 1 (by omega), k 2 (by omega), k 3 (by omega), by rw [run_some hok h0 hy1, e1], by rw [run_some hok (by omega) hs, e2]⟩
  · left
    exact ⟨run_bad hok _, run_bad hok _⟩
theorem run_four (n : List UInt8) (v : Int) (l : List FS) (ni : Nat) (I : List Int) (b : Int) (hb : 0 ≤ b) : ∃ x0 x1 x2 x3 u e : Int, runE n v l ni I b = ([x0, x1, x2, x3], u, e) := by
  by_cases hok : RunOk n v l ni I
  · cases hs : stepsE I b l 0 (startE l.length) with
    | none => exact ⟨_, _, _, _, _, _, run_range hok hb hs⟩
    | some y => exact ⟨_, _, _, _, _, _, run_some hok hb hs⟩
  · exact ⟨_, _, _, _, _, _, run_bad hok _⟩
theorem two_or {a c : Int} (h : a = 2 ∨ a = c) : 2 = a ∨ (c = a ∧ (c == 2) = false ∧ (c != 2) = true) := by
  by_cases h2 : a = 2
  · exact Or.inl h2.symm
  · rcases h with h | h
    · exact absurd h h2
    · subst h
      exact Or.inr ⟨rfl, by simpa using h2, by simpa using h2⟩
theorem refines_letters (n : List UInt8) (v : Int) (l : List FS) (ni : Nat) (I : List Int) (b1 b2 : Int) (h0 : 0 ≤ b1) (hb : b1 ≤ b2) :
    ∃ a0 a1 a2 a3 u1 e1 c0 c1 c2 c3 u2 e2 : Int, Hid (runE n v l ni I b1 = ([a0, a1, a2, a3], u1, e1)) ∧ Hid (runE n v l ni I b2 = ([c0, c1, c2, c3], u2, e2)) ∧
      Hid ((1 = e1 ∧ 1 = e2) ∨ (9 = e2) ∨ (0 = e1 ∧ 0 = e2 ∧ validB n v l = true ∧ (2 = a0 ∨ (c0 = a0 ∧ (c0 == 2) = false ∧ (c0 != 2) = true)) ∧ (2 = a1 ∨ (c1 = a1 ∧ (c1 == 2) = false ∧ (c1 != 2) = true)) ∧ (2 = a2 ∨ (c2 = a2 ∧ (c2 == 2) = false ∧ (c2 != 2) = true)) ∧ (2 = a3 ∨ (c3 = a3 ∧ (c3 == 2) = false ∧ (c3 != 2) = true)) ∧ u1 = min b1 (costE l) ∧ u2 = min b2 (costE l))) := by
  rcases refines_cases n v l ni I b1 b2 h0 hb with ⟨r1, r2⟩ | r2 | ⟨hv, a0, a1, a2, a3, c0, c1, c2, c3, k0, k1, k2, k3, r1, r2⟩
  · exact ⟨_, _, _, _, _, _, _, _, _, _, _, _, Lib.hid r1, Lib.hid r2, Lib.hid (Or.inl ⟨rfl, rfl⟩)⟩
  · obtain ⟨x0, x1, x2, x3, u, e, r1⟩ := run_four n v l ni I b1 h0
    exact ⟨_, _, _, _, _, _, _, _, _, _, _, _, Lib.hid r1, Lib.hid r2, Lib.hid (Or.inr (Or.inl rfl))⟩
  · exact ⟨_, _, _, _, _, _, _, _, _, _, _, _, Lib.hid r1, Lib.hid r2, Lib.hid (Or.inr (Or.inr ⟨rfl, rfl, hv, two_or k0, two_or k1, two_or k2, two_or k3, rfl, rfl⟩))⟩
/-- two lists of inputs -/
theorem cells_case (n : List UInt8) (v : Int) (l : List FS) (i1 i2 : List FS) (b1 b2 : List Bool) (h1 : fullE n v l i1.length (pixI i1) = (b1, 0)) (h2 : fullE n v l i2.length (pixI i2) = (b2, 0)) :
    i1.length = 4 ∧ i2.length = 4 ∧ ∀ c, c < 4 → (∀ k, k < 4 → (pixI i1).getD (k * 4 + c) 0 = (pixI i2).getD (k * 4 + c) 0) → b1[c]? = b2[c]? := by
  have key : ∀ (i : List FS) (b : List Bool), fullE n v l i.length (pixI i) = (b, 0) → RunOk n v l i.length (pixI i) ∧ ∃ y, stepsE (pixI i) (4 * (l.length : Int)) l 0 (startE l.length) = some y ∧ b = [y.v.getD ((l.length - 1) * 4) 0 == 1, y.v.getD ((l.length - 1) * 4 + 1) 0 == 1, y.v.getD ((l.length - 1) * 4 + 2) 0 == 1, y.v.getD ((l.length - 1) * 4 + 3) 0 == 1] := by
    intro i b h
    by_cases hok : RunOk n v l i.length (pixI i)
    · refine ⟨hok, ?_⟩
      cases hs : stepsE (pixI i) (4 * (l.length : Int)) l 0 (startE l.length) with
      | none =>
        rw [full_of (run_range hok (by omega) hs)] at h
        injection h with _ h
        exact absurd h (by decide)
      | some y =>
        rw [full_of (run_some hok (by omega) hs)] at h
        injection h with h _
        exact ⟨y, rfl, h.symm⟩
    · rw [full_of (run_bad hok _)] at h
      injection h with _ h
      exact absurd h (by decide)
  obtain ⟨o1, y1, e1, rfl⟩ := key i1 b1 h1
  obtain ⟨o2, y2, e2, rfl⟩ := key i2 b2 h2
  refine ⟨o1.2.1, o2.2.1, fun c hc hh => ?_⟩
  have hI : ∀ k : Nat, (pixI i1).getD (k * 4 + c) 0 = (pixI i2).getD (k * 4 + c) 0 := fun k => by
    by_cases hk : k < 4
    · exact hh k hk
    · rw [List.getD_eq_getElem?_getD, List.getD_eq_getElem?_getD, List.getElem?_eq_none (by rw [pixI_len, o1.2.1]; omega), List.getElem?_eq_none (by rw [pixI_len, o2.2.1]; omega)]
  have hcol := col_steps hc hI l 0 _ _ _ _ ⟨rfl, rfl, fun _ => rfl⟩ e1 e2
  have hv := hcol.2.2 (l.length - 1)
  have hcs : c = 0 ∨ c = 1 ∨ c = 2 ∨ c = 3 := by omega
  rcases hcs with rfl | rfl | rfl | rfl
  · rw [Nat.add_zero] at hv
    show some (_ == 1) = some (_ == 1)
    rw [hv]
  all_goals
    show some (_ == 1) = some (_ == 1)
    rw [hv]
end Go.Proofs.YtamabdijeklgjaaDoor.Ext

/- The laws on execution: the calls that all of them make. -/
namespace Go.Proofs.YtamabdijeklgjaaDoor.Ext
open Go Go.Proofs Go.RowKit Go.Proofs.YtamabdijeklgjaaDoorW.PrintWords
set_option linter.unusedVariables false
set_option linter.unusedSimpArgs false

theorem few_calls4 (name : ByteArray) (ver : Int) (A : Option Addr) (c : Nat) (l : List FS) (w : World) (hr : Kd.C L.k32 w A l.length l) (hc : l.length ≤ c) :
    Calls Tryd.prog 11 #[.agg #[.string name, .int .i64 ver, .slice A l.length c]] w fun e w' => e = .returned (.bool (decide (l.length ≤ 50) && decide (name.size ≤ 60))) ∧ Below w.heap.size w w' := by
  refine L.observatoryref33_Few.calls name ver A c l _ w hr hc ?_
  unfold L.observatoryref33_Few.f
  by_cases h : (l.length : Int) ≤ 50
  · rw [if_pos h, decide_eq_true (show l.length ≤ 50 by omega), Bool.true_and]
    congr 1
    exact decide_eq_decide.2 (by omega)
  · rw [if_neg h, decide_eq_false (show ¬ l.length ≤ 50 by omega)]
    rfl
theorem few34_calls (name : ByteArray) (ver : Int) (A IA : Option Addr) (c ci ni : Nat) (l : List FS) (w : World) (hr : Kd.C L.k32 w A l.length l) (hc : l.length ≤ c) :
    Calls Tryd.prog 18 #[.agg #[.string name, .int .i64 ver, .slice A l.length c], .slice IA ni ci] w fun e w' => e = .returned (.bool ((decide (l.length ≤ 50) && decide (name.size ≤ 60)) && decide (ni ≤ 6))) ∧ Below w.heap.size w w' := by
  have hB := below_allocs w (.cells #[.string name, .int .i64 ver, .slice A l.length c] 24)
  have HF := Lib.hid (few_calls4 name ver A c l _ (Kd.C_below hr hB) hc)
  have HB := Lib.hid hB
  obtain ⟨q, hq⟩ : ∃ q, (decide (l.length ≤ 50) && decide (name.size ≤ 60)) = q := ⟨_, rfl⟩
  rw [hq] at HF ⊢
  clear hr hc hB hq
  by_cases hni : ni ≤ 6
  · have hn : decide ((ni : Int) ≤ 6) = true := decide_eq_true (by omega)
    rw [decide_eq_true hni]
    go_enter Tryd.func18, Tryd.ntmps18
    go_wp2_with fail
    refine HF.out.mono ?_
    rintro e w1 ⟨rfl, hb⟩
    have HB1 := Lib.hid (below_step HB.out hb)
    clear hb
    cases q with
    | true =>
      go_wp2_with fail
      go_ret
      exact ⟨rfl, HB1.out⟩
    | false =>
      go_wp2_with fail
      go_ret
      exact ⟨rfl, HB1.out⟩
  · have hn : decide ((ni : Int) ≤ 6) = false := decide_eq_false (by omega)
    rw [decide_eq_false hni, Bool.and_false]
    go_enter Tryd.func18, Tryd.ntmps18
    go_wp2_with fail
    refine HF.out.mono ?_
    rintro e w1 ⟨rfl, hb⟩
    have HB1 := Lib.hid (below_step HB.out hb)
    clear hb
    cases q with
    | true =>
      go_wp2_with fail
      go_ret
      exact ⟨rfl, HB1.out⟩
    | false =>
      go_wp2_with fail
      go_ret
      exact ⟨rfl, HB1.out⟩
theorem run_at {name : ByteArray} {ver : Int} {A IA : Option Addr} {c ci : Nat} {l ins : List FS} {bud v0 v1 v2 v3 u er : Int} (h : runE name.data.toList ver l ins.length (pixI ins) bud = ([v0, v1, v2, v3], u, er)) (w : World) (hr : Kd.C L.k32 w A l.length l) (hI : Kd.C L.k32 w IA ins.length ins) (hT : LogicTab w) :
    Calls Tryd.prog 19 #[.agg #[.string name, .int .i64 ver, .slice A l.length c], .slice IA ins.length ci, .int .i64 bud] w fun e w' => e = .returned (.tuple #[.agg #[.int .i64 v0, .int .i64 v1, .int .i64 v2, .int .i64 v3], .int .i64 u, .int .i64 er]) ∧ Below w.heap.size w w' := by
  refine (run_calls name ver A IA c ci l ins bud w hr hI hT).mono ?_
  rintro e w' ⟨x0, x1, x2, x3, hx, rfl, hb⟩
  rw [h] at hx ⊢
  injection hx with e0 hx
  injection hx with e1 hx
  injection hx with e2 hx
  injection hx with e3 _
  subst e0
  subst e1
  subst e2
  subst e3
  exact ⟨rfl, hb⟩
theorem full_at {name : ByteArray} {ver : Int} {A IA : Option Addr} {c ci : Nat} {l ins : List FS} {b0 b1 b2 b3 : Bool} {er : Int} (h : fullE name.data.toList ver l ins.length (pixI ins) = ([b0, b1, b2, b3], er)) (w : World) (hr : Kd.C L.k32 w A l.length l) (hI : Kd.C L.k32 w IA ins.length ins) (hT : LogicTab w) (hl : l.length ≤ 1000000) :
    Calls Tryd.prog 20 #[.agg #[.string name, .int .i64 ver, .slice A l.length c], .slice IA ins.length ci] w fun e w' => e = .returned (.tuple #[.agg #[.bool b0, .bool b1, .bool b2, .bool b3], .int .i64 er]) ∧ Below w.heap.size w w' := by
  refine (full_calls name ver A IA c ci l ins w hr hI hT hl).mono ?_
  rintro e w' ⟨x0, x1, x2, x3, hx, rfl, hb⟩
  rw [h] at hx ⊢
  injection hx with e0 hx
  injection hx with e1 hx
  injection hx with e2 hx
  injection hx with e3 _
  subst e0
  subst e1
  subst e2
  subst e3
  exact ⟨rfl, hb⟩
theorem enough_letters {RA RC : List Int × Int × Int} {RB : List Bool × Int}
    (h : (RA = ([0, 0, 0, 0], 0, 1) ∧ RB = ([false, false, false, false], 1) ∧ RC = ([0, 0, 0, 0], 0, 1)) ∨ (RA = ([0, 0, 0, 0], 0, 9) ∧ RB = ([false, false, false, false], 9) ∧ RC = ([2, 2, 2, 2], 0, 0)) ∨
      (∃ a0 a1 a2 a3 u : Int, Bit2 a0 ∧ Bit2 a1 ∧ Bit2 a2 ∧ Bit2 a3 ∧ RA = ([a0, a1, a2, a3], u, 0) ∧ RB = ([a0 == 1, a1 == 1, a2 == 1, a3 == 1], 0) ∧ RC = ([2, 2, 2, 2], 0, 0))) :
    ∃ (a0 a1 a2 a3 au e1 : Int) (b0 b1 b2 b3 : Bool) (e2 c0 c1 c2 c3 e3 : Int), Hid (RA = ([a0, a1, a2, a3], au, e1)) ∧ Hid (RB = ([b0, b1, b2, b3], e2)) ∧ Hid (RC = ([c0, c1, c2, c3], 0, e3)) ∧
      Hid ((1 = e1 ∧ 1 = e2 ∧ 1 = e3 ∧ false = b0 ∧ false = b1 ∧ false = b2 ∧ false = b3 ∧ 0 = au) ∨ (9 = e1 ∧ 9 = e2 ∧ 0 = e3 ∧ false = b0 ∧ false = b1 ∧ false = b2 ∧ false = b3 ∧ 2 = c0 ∧ 2 = c1 ∧ 2 = c2 ∧ 2 = c3 ∧ 0 = au) ∨
        (0 = e1 ∧ 0 = e2 ∧ 0 = e3 ∧ 2 = c0 ∧ 2 = c1 ∧ 2 = c2 ∧ 2 = c3 ∧ Bit2 a0 ∧ Bit2 a1 ∧ Bit2 a2 ∧ Bit2 a3 ∧ (a0 == 1) = b0 ∧ (a1 == 1) = b1 ∧ (a2 == 1) = b2 ∧ (a3 == 1) = b3)) := by
  rcases h with ⟨rfl, rfl, rfl⟩ | ⟨rfl, rfl, rfl⟩ | ⟨a0, a1, a2, a3, u, h0, h1, h2, h3, rfl, rfl, rfl⟩
  · exact ⟨_, _, _, _, _, _, _, _, _, _, _, _, _, _, _, _, Lib.hid rfl, Lib.hid rfl, Lib.hid rfl, Lib.hid (Or.inl ⟨rfl, rfl, rfl, rfl, rfl, rfl, rfl, rfl⟩)⟩
  · exact ⟨_, _, _, _, _, _, _, _, _, _, _, _, _, _, _, _, Lib.hid rfl, Lib.hid rfl, Lib.hid rfl, Lib.hid (Or.inr (Or.inl ⟨rfl, rfl, rfl, rfl, rfl, rfl, rfl, rfl, rfl, rfl, rfl, rfl⟩))⟩
  · exact ⟨_, _, _, _, _, _, _, _, _, _, _, _, _, _, _, _, Lib.hid rfl, Lib.hid rfl, Lib.hid rfl, Lib.hid (Or.inr (Or.inr ⟨rfl, rfl, rfl, rfl, rfl, rfl, rfl, h0, h1, h2, h3, rfl, rfl, rfl, rfl⟩))⟩
end Go.Proofs.YtamabdijeklgjaaDoor.Ext
