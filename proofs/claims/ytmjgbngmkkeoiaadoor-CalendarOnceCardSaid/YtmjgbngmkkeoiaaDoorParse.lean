/- calendar.Parse: its closure, and the whole, walked. -/
import Derived.Test.YtmjgbngmkkeoiaaDoorG1
namespace Go.Proofs.YtmjgbngmkkeoiaaDoor.Ext
open Go Go.Proofs Go.RowKit Go.Proofs.YtmjgbngmkkeoiaaDoorW.PrintWords Go.Proofs.YtmjgbngmkkeoiaaDoor.G

/-- what the closure returns, and whether it fails -/
def numV (s : ByteArray) : Int := match atoiN s.data.toList with | .ok v => v | .bad v => v
def numBad (s : ByteArray) : Bool := match atoiN s.data.toList with | .ok v => ((itoaS v).toList != s.toList) | .bad _ => true

theorem atoiN_bounds {l : List UInt8} {v : Int} (h : atoiN l = .ok v) : -9223372036854775808 ≤ v ∧ v ≤ 9223372036854775807 := by
  unfold atoiN at h
  cases h1 : Lib.atoiAll l with
  | ok u =>
    rw [h1] at h
    injection h with h
    subst h
    have := Lib.atoiAll_bounds h1
    omega
  | range => rw [h1] at h; cases h
  | _ => rw [h1] at h; cases h

set_option maxHeartbeats 1000000 in
theorem num_true (b : Nat) (s : ByteArray) (hs : s.size ≤ 281474976710656) (w : World) (hT : Tabs w) (hb : w.heap[b]? = some (.cells #[.bool true] 4 (0, 0))) :
    Calls Tryd.prog 25 #[.string s, .pointer (some ⟨b, 0, none⟩)] w fun e w' => e = .returned (.int .i64 (numV s)) ∧ w'.heap[b]? = some (.cells #[.bool true] 4 (0, 0)) ∧ Below b w w' := by
  have hlt := blk_lt hb
  have HB := Lib.hid hb
  have HT := Lib.hid hT
  clear hb hT
  cases ha : atoiN s.data.toList with
  | ok v =>
    have hv : numV s = v := by simp [numV, ha]
    rw [hv]
    have HA := Lib.hid ha
    clear ha hv
    go_enter Tryd.func25, Tryd.ntmps25
    go_wp2_with fail
    refine (atoi_ok s hs v HA.out _).mono ?_
    rintro e w1 ⟨rfl, hb1⟩
    have hblk := blk_below HB.out hb1
    have hcell := blk_cell hblk 0
    have hfz := blk_frozen hblk 0
    go_wp2_with fail
    go_ret
    exact ⟨rfl, by simpa using blk_set hblk 0 (.bool true), ((hb1.mono (Nat.le_of_lt hlt)).setCell (p := ⟨b, 0, none⟩) (Nat.le_refl _) _)⟩
  | bad v =>
    have hv : numV s = v := by simp [numV, ha]
    rw [hv]
    have HA := Lib.hid ha
    clear ha hv
    go_enter Tryd.func25, Tryd.ntmps25
    go_wp2_with fail
    refine (atoi_bad s hs v HA.out _ HT.out).mono ?_
    rintro e w1 ⟨N', rfl, hb1⟩
    have hblk := blk_below HB.out hb1
    have hcell := blk_cell hblk 0
    have hfz := blk_frozen hblk 0
    go_wp2_with fail
    go_ret
    exact ⟨rfl, by simpa using blk_set hblk 0 (.bool true), ((hb1.mono (Nat.le_of_lt hlt)).setCell (p := ⟨b, 0, none⟩) (Nat.le_refl _) _)⟩

set_option maxHeartbeats 1000000 in
theorem num_false (b : Nat) (s : ByteArray) (hs : s.size ≤ 281474976710656) (w : World) (hT : Tabs w) (hb : w.heap[b]? = some (.cells #[.bool false] 4 (0, 0))) :
    Calls Tryd.prog 25 #[.string s, .pointer (some ⟨b, 0, none⟩)] w fun e w' => e = .returned (.int .i64 (numV s)) ∧ w'.heap[b]? = some (.cells #[.bool (numBad s)] 4 (0, 0)) ∧ Below b w w' := by
  have hlt := blk_lt hb
  have HB := Lib.hid hb
  have HT := Lib.hid hT
  clear hb hT
  cases ha : atoiN s.data.toList with
  | ok v =>
    have hv : numV s = v := by simp [numV, ha]
    have hx : numBad s = ((itoaS v).toList != s.toList) := by simp [numBad, ha]
    rw [hv, hx]
    have HA := Lib.hid ha
    clear ha hv hx
    have hbd := atoiN_bounds HA.out
    obtain ⟨i, hi⟩ : ∃ i, i = itoaS v := ⟨_, rfl⟩
    have hf : strconv_Itoa.f v = some i := by unfold strconv_Itoa.f; rw [if_pos hbd, hi]
    rw [← hi]
    have HF := Lib.hid hf
    clear hf hi
    go_enter Tryd.func25, Tryd.ntmps25
    go_wp2_with fail
    refine (atoi_ok s hs v HA.out _).mono ?_
    rintro e w1 ⟨rfl, hb1⟩
    have hblk := blk_below HB.out hb1
    have hcell := blk_cell hblk 0
    have HK := Lib.hid hblk
    clear hblk
    go_wp2_with fail
    refine (strconv_Itoa.calls v i _ (HT.out.below hb1) HF.out).mono ?_
    rintro e w2 ⟨rfl, hb2⟩
    clear hcell
    have hblk := blk_below HK.out hb2
    have hcell := blk_cell hblk 0
    have hfz := blk_frozen hblk 0
    go_wp2_with fail
    go_ret
    exact ⟨rfl, by simpa [bne] using blk_set hblk 0 (.bool (i.toList != s.toList)), ((hb1.mono (Nat.le_of_lt hlt)).trans (hb2.mono (Nat.le_trans (Nat.le_of_lt hlt) hb1.size))).setCell (p := ⟨b, 0, none⟩) (Nat.le_refl _) _⟩
  | bad v =>
    have hv : numV s = v := by simp [numV, ha]
    have hx : numBad s = true := by simp [numBad, ha]
    rw [hv, hx]
    have HA := Lib.hid ha
    clear ha hv hx
    go_enter Tryd.func25, Tryd.ntmps25
    go_wp2_with fail
    refine (atoi_bad s hs v HA.out _ HT.out).mono ?_
    rintro e w1 ⟨N', rfl, hb1⟩
    have hblk := blk_below HB.out hb1
    have hcell := blk_cell hblk 0
    have hfz := blk_frozen hblk 0
    go_wp2_with fail
    go_ret
    exact ⟨rfl, by simpa using blk_set hblk 0 (.bool true), ((hb1.mono (Nat.le_of_lt hlt)).setCell (p := ⟨b, 0, none⟩) (Nat.le_refl _) _)⟩

theorem num_any (b : Nat) (s : ByteArray) (fl : Bool) (hs : s.size ≤ 281474976710656) (w : World) (hT : Tabs w) (hb : w.heap[b]? = some (.cells #[.bool fl] 4 (0, 0))) :
    Calls Tryd.prog 25 #[.string s, .pointer (some ⟨b, 0, none⟩)] w fun e w' => e = .returned (.int .i64 (numV s)) ∧ w'.heap[b]? = some (.cells #[.bool (fl || numBad s)] 4 (0, 0)) ∧ Below b w w' := by
  cases fl
  · simpa using num_false b s hs w hT hb
  · simpa using num_true b s hs w hT hb

/-! ### the whole -/
/-- what stands before and behind the first dot -/
def cutL (s : ByteArray) : ByteArray := ⟨(Lib.cut s.data.toList [46]).1.toArray⟩
def cutR (s : ByteArray) : ByteArray := ⟨(Lib.cut s.data.toList [46]).2.1.toArray⟩
def parseV (s : ByteArray) (r : Int × Int) : Int × Int := if (numBad (cutL s) || numBad (cutR s)) = true then (0, 5) else if r.2 = 0 then (r.1, 0) else (0, 5)
def calendar_Parse.f (s : ByteArray) : Option (Int × Int) := if s.size < 4294967281 then (calendar_Moment.f (numV (cutL s)) (numV (cutR s))).map (parseV s) else none

theorem cut_len (l sep : List UInt8) : (Lib.cut l sep).1.length ≤ l.length ∧ (Lib.cut l sep).2.1.length ≤ l.length := by
  unfold Lib.cut
  split
  · constructor
    · simp only [List.length_take]; omega
    · simp only [List.length_drop]; omega
  · simp
theorem cut_size (s : ByteArray) : (cutL s).size ≤ s.size ∧ (cutR s).size ≤ s.size := by
  have hs : s.data.toList.length = s.size := Array.length_toList
  have := cut_len s.data.toList [46]
  rw [hs] at this
  unfold cutL cutR
  rw [size_lit, size_lit]
  exact this

set_option maxHeartbeats 1000000 in
theorem calendar_Parse.calls (a0 : ByteArray) (r1 r2 : Int) (w : World) (hT : Tabs w) (h : calendar_Parse.f a0 = some (r1, r2)) :
    Calls Tryd.prog 16 #[.string a0] w fun e w' => e = .returned (.tuple #[.int .i64 r1, .int .i64 r2]) ∧ Below w.heap.size w w' := by
  unfold calendar_Parse.f at h
  split at h
  case isFalse => cases h
  case isTrue hs =>
  rw [Option.map_eq_some_iff] at h
  obtain ⟨⟨m, er⟩, hm, hv⟩ := h
  have HV := Lib.hid hv
  have HM := Lib.hid hm
  have HT := Lib.hid hT
  clear hv hm hT
  have hc : ∀ w, Tabs w → Calls Tryd.prog 27 #[.string a0, .string ⟨#[46]⟩] w fun e w' => e = .returned (.tuple #[.string (cutL a0), .string (cutR a0), .bool (Lib.cut a0.data.toList [46]).2.2]) ∧ Drawn0 w w' := fun w hT => cut_any a0 ⟨#[46]⟩ hs w hT
  have hl := cut_size a0
  have HC := Lib.hid hc
  clear hc
  go_enter Tryd.func16, Tryd.ntmps16
  go_wp2_with fail
  refine (HC.out _ (HT.out.alloc _)).mono ?_
  rintro e w1 ⟨rfl, ⟨nd, rfl⟩⟩
  go_wp2_with fail
  refine (num_any w.heap.size (cutL a0) false (by omega) _ ((HT.out.alloc _).drewN _) (blk_new w _)).mono ?_
  rintro e w2 ⟨rfl, hk2, hb2⟩
  have hB2 : Below w.heap.size w w2 := (bdr ((Below.refl _ w).alloc (Nat.le_refl _) (.cells #[.bool false] 4)) nd).trans hb2
  have HK := Lib.hid hk2
  clear hk2
  go_wp2_with fail
  refine (num_any w.heap.size (cutR a0) _ (by omega) _ (HT.out.below hB2) HK.out).mono ?_
  rintro e w3 ⟨rfl, hk3, hb3⟩
  have HK3 := Lib.hid hk3
  clear hk3 HK
  go_wp2_with fail
  refine (calendar_Moment.calls _ _ m er _ HM.out).mono ?_
  rintro e w4 ⟨rfl, ⟨nd2, rfl⟩⟩
  obtain ⟨fl, hfl⟩ : ∃ fl, fl = (false || numBad (cutL a0) || numBad (cutR a0)) := ⟨_, rfl⟩
  rw [← hfl] at HK3
  have HF := Lib.hid hfl
  clear hfl
  have hcell := blk_cell HK3.out 0
  have hB3 : Below w.heap.size w w3 := hB2.trans hb3
  have he : ((er : Int) == 0) = decide (er = 0) := by rfl
  cases fl
  · have hv2 : (if er = 0 then (m, (0 : Int)) else (0, 5)) = (r1, r2) := by
      have := HV.out
      unfold parseV at this
      rwa [if_neg (by have h2 := HF.out; simp only [Bool.false_or] at h2; rw [← h2]; simp)] at this
    by_cases e0 : er = 0
    · rw [if_pos e0] at hv2
      have hb : (er != 0) = false := bne_eq_false_iff_eq.mpr e0
      have HV2 := Lib.hid hv2
      clear hv2 he e0
      go_wp2_with fail
      go_ret2
      obtain ⟨rfl, rfl⟩ := Prod.mk.inj HV2.out
      exact ⟨rfl, bdr hB3 _⟩
    · rw [if_neg e0] at hv2
      have hb : (er != 0) = true := bne_iff_ne.mpr e0
      have HV2 := Lib.hid hv2
      clear hv2 he e0
      go_wp2_with fail
      go_ret2
      obtain ⟨rfl, rfl⟩ := Prod.mk.inj HV2.out
      exact ⟨rfl, bdr hB3 _⟩
  · have hv2 : ((0 : Int), (5 : Int)) = (r1, r2) := by
      have := HV.out
      unfold parseV at this
      rwa [if_pos (by have h2 := HF.out; simp only [Bool.false_or] at h2; rw [← h2])] at this
    have HV2 := Lib.hid hv2
    clear hv2 he
    go_wp2_with fail
    go_ret2
    obtain ⟨rfl, rfl⟩ := Prod.mk.inj HV2.out
    exact ⟨rfl, bdr hB3 _⟩
end Go.Proofs.YtmjgbngmkkeoiaaDoor.Ext
