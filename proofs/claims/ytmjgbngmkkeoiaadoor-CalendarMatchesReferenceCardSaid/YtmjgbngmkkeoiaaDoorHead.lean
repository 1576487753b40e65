/- The chapter's examples (head), at their values. -/
import Derived.Test.YtmjgbngmkkeoiaaDoorParse
import Derived.Test.YtmjgbngmkkeoiaaDoorNext
namespace Go.Proofs.YtmjgbngmkkeoiaaDoor.Ext
open Go Go.Proofs Go.RowKit Go.Proofs.YtmjgbngmkkeoiaaDoorW.PrintWords Go.Proofs.YtmjgbngmkkeoiaaDoor.G

theorem v1 : calendar_Moment.f 12 95 = some (1247, 0) := by decide +kernel
theorem v2 : calendar_Split.f 1247 = some (12, 95, 0) := by decide +kernel
theorem v3 : calendar_Sidereal.f 96 = some (16, 0) := by decide +kernel
theorem v4 : calendar_Sidereal.f 1247 = some (132, 0) := by decide +kernel
theorem i12 : Lib.itoa 12 = [49, 50] := by simp [Lib.itoa, Lib.decDigits]
theorem i95 : Lib.itoa 95 = [57, 53] := by simp [Lib.itoa, Lib.decDigits]
theorem v5 : calendar_Text.f 1247 = some (⟨#[49, 50, 46, 57, 53]⟩, 0) := by
  unfold calendar_Text.f
  rw [v2]
  simp only [Option.bind_some, strconv_Itoa.f, itoaS, i12, i95]
  decide +kernel
theorem n12 : numV (cutL ⟨#[49, 50, 46, 57, 53]⟩) = 12 ∧ numV (cutR ⟨#[49, 50, 46, 57, 53]⟩) = 95 := by decide +kernel
theorem v6 : calendar_Parse.f ⟨#[49, 50, 46, 57, 53]⟩ = some (1247, 0) := by
  have h1 : cutL ⟨#[49, 50, 46, 57, 53]⟩ = ⟨#[49, 50]⟩ := by decide +kernel
  have h2 : cutR ⟨#[49, 50, 46, 57, 53]⟩ = ⟨#[57, 53]⟩ := by decide +kernel
  have h3 : numBad ⟨#[49, 50]⟩ = false := by
    have : atoiN [49, 50] = .ok 12 := by rfl
    simp only [numBad, this, itoaS, i12]
    decide +kernel
  have h4 : numBad ⟨#[57, 53]⟩ = false := by
    have : atoiN [57, 53] = .ok 95 := by rfl
    simp only [numBad, this, itoaS, i95]
    decide +kernel
  unfold calendar_Parse.f
  rw [if_pos (by decide), n12.1, n12.2, v1]
  simp [parseV, h1, h2, h3, h4]
theorem v7 : calendar_Parse.f ⟨#[48, 49, 50, 46, 53]⟩ = some (0, 5) := by
  have h1 : cutL ⟨#[48, 49, 50, 46, 53]⟩ = ⟨#[48, 49, 50]⟩ := by decide +kernel
  have h3 : numBad ⟨#[48, 49, 50]⟩ = true := by
    have : atoiN [48, 49, 50] = .ok 12 := by rfl
    simp only [numBad, this, itoaS, i12]
    decide +kernel
  have h5 : numV (cutL ⟨#[48, 49, 50, 46, 53]⟩) = 12 ∧ numV (cutR ⟨#[48, 49, 50, 46, 53]⟩) = 5 := by decide +kernel
  have h6 : calendar_Moment.f 12 5 = some (1157, 0) := by decide +kernel
  unfold calendar_Parse.f
  rw [if_pos (by decide), h5.1, h5.2, h6]
  simp [parseV, h1, h3]
theorem v8 : calendar_Next.f 0 0 = some (0, 0) := by decide +kernel
theorem v9 : calendar_Next.f 1 0 = some (96, 0) := by decide +kernel
theorem v10 : calendar_Next.f 38399 0 = some (0, 9) := by decide +kernel
theorem v11 : calendar_Moment.f 400 0 = some (0, 1) := by decide +kernel

def head.f : Option Bool := some true
set_option maxRecDepth 100000 in
set_option maxHeartbeats 2000000 in
theorem head.calls (r : Bool) (w : World) (hT : Tabs w) (h : head.f = some r) :
    Calls Tryd.prog 7 #[] w fun e w' => e = .returned (.bool r) ∧ Below w.heap.size w w' := by
  obtain rfl := Option.some.inj h
  clear h
  have HT := Lib.hid hT
  clear hT
  go_enter Tryd.func7, Tryd.ntmps7
  go_wp2_with fail
  refine (calendar_Moment.calls _ _ _ _ _ v1).mono ?_
  rintro e w' ⟨rfl, ⟨n1, rfl⟩⟩
  go_wp2_with fail
  refine (calendar_Split.calls _ _ _ _ _ v2).mono ?_
  rintro e w' ⟨rfl, ⟨n2, rfl⟩⟩
  go_wp2_with fail
  refine (calendar_Sidereal.calls _ _ _ _ v3).mono ?_
  rintro e w' ⟨rfl, ⟨n3, rfl⟩⟩
  go_wp2_with fail
  refine (calendar_Sidereal.calls _ _ _ _ v4).mono ?_
  rintro e w' ⟨rfl, ⟨n4, rfl⟩⟩
  go_wp2_with fail
  refine (calendar_Text.calls _ _ _ _ (HT.out.drewN _) v5).mono ?_
  rintro e w1 ⟨rfl, hb1⟩
  have HB1 : Hid (Below w.heap.size w w1) := below_then (bdr (Below.refl w.heap.size w) _) (Nat.le_refl _) hb1
  clear hb1
  go_wp2_with fail
  refine (calendar_Parse.calls _ _ _ _ (HT.out.below HB1.out) v6).mono ?_
  rintro e w2 ⟨rfl, hb2⟩
  have HB2 : Hid (Below w.heap.size w w2) := below_step HB1.out hb2
  clear hb2 HB1
  go_wp2_with fail
  refine (calendar_Parse.calls _ _ _ _ (HT.out.below HB2.out) v7).mono ?_
  rintro e w3 ⟨rfl, hb3⟩
  have HB3 : Hid (Below w.heap.size w w3) := below_step HB2.out hb3
  clear hb3 HB2
  go_wp2_with fail
  refine (calendar_Next.calls _ _ _ _ _ v8).mono ?_
  rintro e w4 ⟨rfl, hb4⟩
  have HB4 : Hid (Below w.heap.size w w4) := below_step HB3.out hb4
  clear hb4 HB3
  go_wp2_with fail
  refine (calendar_Next.calls _ _ _ _ _ v9).mono ?_
  rintro e w5 ⟨rfl, hb5⟩
  have HB5 : Hid (Below w.heap.size w w5) := below_step HB4.out hb5
  clear hb5 HB4
  go_wp2_with fail
  refine (calendar_Next.calls _ _ _ _ _ v10).mono ?_
  rintro e w6 ⟨rfl, hb6⟩
  have HB6 : Hid (Below w.heap.size w w6) := below_step HB5.out hb6
  clear hb6 HB5
  go_wp2_with fail
  refine (calendar_Moment.calls _ _ _ _ _ v11).mono ?_
  rintro e w' ⟨rfl, ⟨n7, rfl⟩⟩
  go_wp2_with fail
  go_ret
  exact ⟨rfl, bdr HB6.out _⟩
end Go.Proofs.YtmjgbngmkkeoiaaDoor.Ext
