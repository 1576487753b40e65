/- Several texts in one (LexF LexG LexH LexI Tabs). -/
import Derived.Test.YtamabdijeklgjaaDoorLexE
import Derived.Laws.RangeString
import Derived.Lib.IndexAny
/- strings.IndexAny at the two bytes that end a string literal, on any bytes. -/
namespace Go.Proofs.YtamabdijeklgjaaDoor.Ext
open Go Go.Proofs Go.RowKit Go.Proofs.YtamabdijeklgjaaDoorW.PrintWords
set_option linter.unusedVariables false
set_option linter.unusedSimpArgs false

def qn : ByteArray := ⟨#[34, 10]⟩
/-- what a byte above 127 decodes to -/
theorem decode_high (s : ByteArray) (i : Nat) (hi : i < s.size) (hb : 128 ≤ (s[i]'hi).toNat) :
    ∃ c k, Utf8.decode s i = (c, k) ∧ 128 ≤ c ∧ c ≤ 0x10FFFF ∧ Utf8.valid (c : Int) = true ∧ 1 ≤ k ∧ i + k ≤ s.size ∧ ∀ j, j < k → ∀ b, s.data.toList[i + j]? = some b → 128 ≤ b.toNat := by
  have h0 : (s.get! (i + 0)).toNat = (s[i]'hi).toNat := by
    rw [Nat.add_zero]
    show (s.data[i]!).toNat = _
    rw [getElem!_pos s.data i (by simpa using hi)]
    rfl
  have hone : ∀ j, j < 1 → ∀ b, s.data.toList[i + j]? = some b → 128 ≤ b.toNat := by
    intro j hj b hbb
    obtain rfl : j = 0 := by omega
    rw [Nat.add_zero, Lib.data_getElem? s i hi] at hbb
    injection hbb with hbb
    rw [← hbb]
    exact hb
  have hcont : ∀ k, (i + k < s.size && (s.get! (i + k)).toNat / 64 == 2) = true → i + k < s.size ∧ ∀ b, s.data.toList[i + k]? = some b → 128 ≤ b.toNat := by
    intro k h
    simp only [Bool.and_eq_true, decide_eq_true_eq, beq_iff_eq] at h
    refine ⟨h.1, fun b hbb => ?_⟩
    have : (s.get! (i + k)).toNat = b.toNat := by
      rw [Lib.data_getElem? s (i + k) h.1] at hbb
      injection hbb with hbb
      show (s.data[i + k]!).toNat = _
      rw [getElem!_pos s.data (i + k) (by simpa using h.1), ← hbb]
      rfl
    omega
  unfold Utf8.decode
  simp only [h0]
  rw [if_neg (by omega)]
  have herr : ∃ c k, (Utf8.runeError, 1) = (c, k) ∧ 128 ≤ c ∧ c ≤ 0x10FFFF ∧ Utf8.valid (c : Int) = true ∧ 1 ≤ k ∧ i + k ≤ s.size ∧ ∀ j, j < k → ∀ b, s.data.toList[i + j]? = some b → 128 ≤ b.toNat :=
    ⟨_, _, rfl, by decide, by decide, by decide, by decide, by omega, hone⟩
  split
  · rename_i h
    simp only [Bool.and_eq_true] at h
    obtain ⟨_, h1⟩ := h
    obtain ⟨g1, g1'⟩ := hcont 1 (by simpa using h1)
    split
    · rename_i h2
      refine ⟨_, _, rfl, h2, ?_, ?_, by decide, by omega, ?_⟩
      · have := Nat.mod_lt ((s[i]'hi).toNat) (show 0 < 32 by decide)
        have := Nat.mod_lt ((s.get! (i + 1)).toNat) (show 0 < 64 by decide)
        omega
      · have := Nat.mod_lt ((s[i]'hi).toNat) (show 0 < 32 by decide)
        have := Nat.mod_lt ((s.get! (i + 1)).toNat) (show 0 < 64 by decide)
        simp [Utf8.valid]
        omega
      · intro j hj b hbb
        rcases Nat.eq_zero_or_pos j with e | e
        · exact hone j (by omega) b hbb
        · obtain rfl : j = 1 := by omega
          exact g1' b hbb
    · exact herr
  · split
    · rename_i h
      simp only [Bool.and_eq_true] at h
      obtain ⟨⟨_, h1⟩, h2⟩ := h
      obtain ⟨g1, g1'⟩ := hcont 1 (by simpa using h1)
      obtain ⟨g2, g2'⟩ := hcont 2 (by simpa using h2)
      split
      · rename_i h3
        simp only [Bool.and_eq_true, decide_eq_true_eq] at h3
        refine ⟨_, _, rfl, by omega, ?_, h3.2, by decide, by omega, ?_⟩
        · have := Nat.mod_lt ((s[i]'hi).toNat) (show 0 < 16 by decide)
          have := Nat.mod_lt ((s.get! (i + 1)).toNat) (show 0 < 64 by decide)
          have := Nat.mod_lt ((s.get! (i + 2)).toNat) (show 0 < 64 by decide)
          omega
        · intro j hj b hbb
          rcases Nat.eq_zero_or_pos j with e | e
          · exact hone j (by omega) b hbb
          · rcases (show j = 1 ∨ j = 2 by omega) with rfl | rfl
            · exact g1' b hbb
            · exact g2' b hbb
      · exact herr
    · split
      · rename_i h
        simp only [Bool.and_eq_true] at h
        obtain ⟨⟨⟨_, h1⟩, h2⟩, h3⟩ := h
        obtain ⟨g1, g1'⟩ := hcont 1 (by simpa using h1)
        obtain ⟨g2, g2'⟩ := hcont 2 (by simpa using h2)
        obtain ⟨g3, g3'⟩ := hcont 3 (by simpa using h3)
        split
        · rename_i h4
          simp only [Bool.and_eq_true, decide_eq_true_eq] at h4
          have hv := h4.2
          refine ⟨_, _, rfl, by omega, ?_, hv, by decide, by omega, ?_⟩
          · unfold Utf8.valid at hv
            simp only [Bool.or_eq_true, Bool.and_eq_true, decide_eq_true_eq] at hv
            omega
          · intro j hj b hbb
            rcases Nat.eq_zero_or_pos j with e | e
            · exact hone j (by omega) b hbb
            · rcases (show j = 1 ∨ j = 2 ∨ j = 3 by omega) with rfl | rfl | rfl
              · exact g1' b hbb
              · exact g2' b hbb
              · exact g3' b hbb
        · exact herr
      · exact herr
theorem encode_high (c : Int) (h0 : 128 ≤ c) (hv : Utf8.valid c = true) : (∃ a b : UInt8, Utf8.encode c = ⟨#[a, b]⟩ ∧ 128 ≤ b.toNat) ∨ (3 ≤ (Utf8.encode c).size ∧ (Utf8.encode c).size ≤ 4) := by
  by_cases h2 : c.toNat < 2048
  · refine Or.inl ⟨UInt8.ofNat (0xC0 + c.toNat / 64), UInt8.ofNat (0x80 + c.toNat % 64), ?_, ?_⟩
    · unfold Utf8.encode
      simp only [hv, if_true]
      rw [if_neg (by omega), if_pos (by omega)]
    · rw [UInt8.toNat_ofNat']
      omega
  · right
    have : ∀ x : ByteArray, x = Utf8.encode c → 3 ≤ x.size ∧ x.size ≤ 4 := by
      intro x hx
      unfold Utf8.encode at hx
      simp only [hv, if_true] at hx
      rw [if_neg (by omega), if_neg (by omega)] at hx
      split at hx <;> subst hx <;> simp [ByteArray.size]
    exact this _ rfl

set_option maxRecDepth 100000 in
set_option maxHeartbeats 4000000 in
theorem rune_error (w : World) :
    Calls Tryd.prog 85 #[.string qn, .int .i32 65533] w fun e w' => e = .returned (.int .i64 (-1)) ∧ Below w.heap.size w w' := by
  have n0 := fun ty => run_next_ascii (P := Tryd.prog) w qn 0 ty (by decide) (by decide)
  have n1 := fun ty => run_next_ascii (P := Tryd.prog) w qn 1 ty (by decide) (by decide)
  have n2 := fun ty => run_next_end (P := Tryd.prog) w qn 2 ty (by decide)
  go_enter Tryd.func85, Tryd.ntmps85
  go_wp2_with fail
  refine wp_loop_rounds 3 ?_
  rw [rounds_succ]
  go_wp2_with fail
  rw [rounds_succ]
  go_wp2_with fail
  rw [rounds_succ]
  go_wp2_with fail
  go_ret
  exact ⟨rfl, below_alloc (Below.refl _ _) _⟩
theorem idx_none (x : Int) (w : World) : Calls Tryd.prog 71 #[.string (qn.extract 2 2), .int .u8 x] w fun e w' => e = .returned (.int .i64 (-1)) ∧ w' = w :=
  (Any.strings_IndexByte Tryd.lays137 _ _ _).mono fun e w' ⟨he, hw⟩ => ⟨he.trans (by rw [show (qn.extract 2 2).data.toList = [] by decide +kernel]; rfl), hw⟩
set_option maxRecDepth 100000 in
set_option maxHeartbeats 4000000 in
theorem rune_high (c : Int) (h0 : 128 ≤ c) (h1 : c ≤ 0x10FFFF) (hv : Utf8.valid c = true) (hne : c ≠ 65533) (w : World) :
    Calls Tryd.prog 85 #[.string qn, .int .i32 c] w fun e w' => e = .returned (.int .i64 (-1)) ∧ Below w.heap.size w w' := by
  have hz : decide (c < 128) = false := by simpa using h0
  have hz0 : (0 : Int) ≤ c := by omega
  have hne' : (c == 65533) = false := by simpa using hne
  obtain ⟨rs, hrs⟩ : ∃ rs, Utf8.encode c = rs := ⟨_, rfl⟩
  have he := encode_high c h0 hv
  rw [hrs] at he
  have hvr : Lib.validRune c = true := by
    unfold Utf8.valid at hv
    simp only [Bool.or_eq_true, Bool.and_eq_true, decide_eq_true_eq] at hv
    unfold Lib.validRune
    exact decide_eq_true (by omega)
  have HVR := Lib.hid hvr
  have HRS := Lib.hid hrs
  have hconv : ∀ w, (convert 21 9 (.int .i32 c)).run Tryd.prog w = .ok (.string rs) w := by
    intro w
    rw [← HRS.out]
    exact run_convert_int_string w _ _ _ _ (by kernel_rfl) Tryd.underlying9
  clear hv hne hvr hrs
  rcases he with ⟨a, b, rfl, hb⟩ | ⟨h3, h4⟩
  · have hsz : (⟨#[a, b]⟩ : ByteArray).size = 2 := rfl
    have hnb : ((10 : Int) != (b.toNat : Int)) = true := by simp; omega
    have hq1 : (qn[1]'(by decide)).toNat = 10 := by decide
    have hr1 : ((⟨#[a, b]⟩ : ByteArray)[1]'(by show 1 < 2; decide)) = b := rfl
    have hqs : qn.size = 2 := rfl
    have HQ := Lib.hid hqs
    go_enter Tryd.func85, Tryd.ntmps85
    go_wp2_with fail
    refine (Any.utf8_ValidRune Tryd.lays119 c _).mono ?_
    rintro e w' ⟨rfl, rfl⟩
    rw [HVR.out]
    go_wp2_with fail
    go_step3
    go_wp2_with fail
    refine wp_loop_rounds 2 ?_
    rw [rounds_succ]
    go_wp2_with fail
    go_step3
    go_wp2_with fail
    go_quiet (fail)
    go_wp2_with fail
    have HB : Hid (Below w'.heap.size w' (w'.drewN nq)) := Lib.hid (bdr (Below.refl _ _) nq)
    generalize w'.drewN nq = w2 at HB
    go_quiet ((go_at_call 71; exact Calls.quiet_of_same (idx_none _ _)))
    go_wp2_with fail
    rw [Exit.noGoto_ret]
    go_wp2_with fail
    rw [Exit.noGoto_ret]
    go_ret
    exact ⟨rfl, bdr HB.out _⟩
  · go_enter Tryd.func85, Tryd.ntmps85
    go_wp2_with fail
    refine (Any.utf8_ValidRune Tryd.lays119 c _).mono ?_
    rintro e w' ⟨rfl, rfl⟩
    rw [HVR.out]
    have hqs : qn.size = 2 := rfl
    have hzz : ¬ ((rs.size : Int) - 1 < (2 : Int)) := by omega
    go_wp2_with fail
    go_step3
    go_wp2_with fail
    refine wp_loop_rounds 1 ?_
    rw [rounds_succ]
    go_wp2_with fail
    rw [Exit.noGoto_ret]
    go_ret
    exact ⟨rfl, Below.refl _ _⟩

def putB (w : World) (b : Nat) (o : Obj) : World := { w with heap := w.heap.setIfInBounds b o }
theorem run_next_str (w : World) (N : Nat) (s : ByteArray) (pos : Nat) (ty : TypeId) (h : w.heap[N]? = some (.stringIter s pos)) (hp : pos < s.size) (c k : Nat) (hd : Utf8.decode s pos = (c, k)) :
    (Instr.next (.pointer (some ⟨N, 0, none⟩)) true ty).run Tryd.prog w = .ok (.tuple #[.bool true, .int .i64 pos, .int .i32 c]) (putB w N (.stringIter s (pos + k))) := by
  simp only [Instr.next, getObj, setObj, Sem.run_bind, Sem.run, h, Result.andThen, hp, if_true, hd]
  simp [goInt, Sem.run, putB]
theorem run_next_stop (w : World) (N : Nat) (s : ByteArray) (pos : Nat) (ty : TypeId) (h : w.heap[N]? = some (.stringIter s pos)) (hp : ¬ pos < s.size) :
    (Instr.next (.pointer (some ⟨N, 0, none⟩)) true ty).run Tryd.prog w = .ok (.tuple #[.bool false]) w := by
  simp [Instr.next, getObj, Sem.run, h, hp]
theorem putB_at {w : World} {N : Nat} {o o' : Obj} (h : w.heap[N]? = some o) : (putB w N o').heap[N]? = some o' := by
  have := (Array.getElem?_eq_some_iff.1 h).1
  simp [putB, this]
theorem putB_below {w w' : World} {N B : Nat} (hb : Below B w w') (hN : B ≤ N) (o : Obj) : Below B w (putB w' N o) :=
  ⟨hb.os, hb.tape, hb.output, by simpa [putB] using hb.size, fun k hk => by
    have : (putB w' N o).heap[k]? = w'.heap[k]? := by simp [putB, Array.getElem?_setIfInBounds]; omega
    rw [this]; exact hb.block k hk⟩
theorem rune_any (c : Int) (h0 : 128 ≤ c) (h1 : c ≤ 0x10FFFF) (hv : Utf8.valid c = true) (w : World) :
    Calls Tryd.prog 85 #[.string qn, .int .i32 c] w fun e w' => e = .returned (.int .i64 (-1)) ∧ Below w.heap.size w w' := by
  by_cases hc : c = 65533
  · subst hc; exact rune_error w
  · exact rune_high c h0 h1 hv hc w
theorem noany_more {l : List UInt8} {i k : Nat} (h : Lib.NoAny l [34, 10] i) (hall : ∀ j, j < k → ∀ b, l[i + j]? = some b → 128 ≤ b.toNat) : Lib.NoAny l [34, 10] (i + k) := by
  intro j b hj hb
  rcases Nat.lt_or_ge j i with h1 | h1
  · exact h j b h1 hb
  · have := hall (j - i) (by omega) b (by rw [show i + (j - i) = j by omega]; exact hb)
    have h1 : b ≠ 34 := by intro e; subst e; exact absurd this (by decide)
    have h2 : b ≠ 10 := by intro e; subst e; exact absurd this (by decide)
    simp [h1, h2]
theorem any_info : (Tryd.prog.info? 144).map (fun i => (i.zero, i.size)) = some (some (.agg (Array.replicate 256 (.bool false))), 256) := by kernel_rfl
theorem qn_list : qn.data.toList = [34, 10] := rfl
set_option maxRecDepth 100000 in
set_option maxHeartbeats 4000000 in
theorem any_short (s : ByteArray) (h8 : s.size ≤ 8) (w : World) :
    Calls Tryd.prog 73 #[.string s, .string qn] w fun e w' => e = .returned (.int .i64 (Lib.indexAny s.data.toList [34, 10])) ∧ Below w.heap.size w w' := by
  have hsz := Lib.hid (Lib.size_eq s)
  have h8z : decide ((8 : Int) < (s.size : Int)) = false := decide_eq_false (by omega)
  have H8 := Lib.hid h8z
  have hem : qn.toList.isEmpty = false := by decide +kernel
  have hqs : qn.size = 2 := rfl
  have I0 : Hid ((w.iter s 0).heap[w.heap.size]? = some (.stringIter s 0)) := Lib.hid (World.iter_heap w s 0)
  have B0 : Hid (Below w.heap.size w (w.iter s 0)) := Lib.hid (below_alloc (Below.refl _ _) _)
  clear h8z
  go_enter Tryd.func73, Tryd.ntmps73
  go_wp2_with fail
  refine (Any.strings_shouldUseASCIISet { Tryd.lays153 with } _ _).mono ?_
  rintro e w' ⟨rfl, rfl⟩
  rw [H8.out]
  go_wp2_with fail
  go_loopg [9, 10] s.size (fun g _ _ wx => ∃ i : Nat, i ≤ s.size ∧ s.size ≤ i + g ∧ Hid (wx.heap[w'.heap.size]? = some (.stringIter s i)) ∧ Hid (Below w'.heap.size w' wx) ∧ Hid (Lib.NoAny s.data.toList [34, 10] i))
  case atStart => exact ⟨0, by omega, by omega, I0, B0, Lib.hid (Lib.NoAny.zero _ _)⟩
  case round =>
    obtain ⟨i, hi1, hi2, HI, HB, HN⟩ := hrel
    by_cases hi : i < s.size
    · cases gk with
      | zero => omega
      | succ g =>
      by_cases hx : (s[i]'hi).toNat < 128
      · obtain ⟨x, hxx⟩ : ∃ x : UInt8, s[i]'hi = x := ⟨_, rfl⟩
        have hxl : s.data.toList[i]? = some x := by rw [← hxx]; exact Lib.data_getElem? s i hi
        have hnx := fun ty => run_next_str wr w'.heap.size s i ty HI.out hi (s[i]'hi).toNat 1 (decode_ascii s i hi hx)
        rw [hxx] at hnx hx
        have Hx := Lib.hid hxl
        have hback : ((x.toNat : Int)).toNat.toUInt8 = x := by simp
        have HBk := Lib.hid hback
        have HB1 : Hid (Below w'.heap.size w' (putB wr w'.heap.size (.stringIter s (i + 1)))) := Lib.hid (putB_below HB.out (Nat.le_refl _) _)
        have HI1 : Hid ((putB wr w'.heap.size (.stringIter s (i + 1))).heap[w'.heap.size]? = some (.stringIter s (i + 1))) := Lib.hid (putB_at HI.out)
        have hcon := Lib.contains_iff_indexByte [34, 10] x
        clear hxl hback hxx
        cases hin : [34, 10].contains x
        · rw [hin] at hcon
          have hlt : ¬ ((0 : Int) ≤ Lib.indexByte [34, 10] x) := of_decide_eq_false hcon.symm
          have Hin := Lib.hid hin
          clear hcon hin
          generalize putB wr w'.heap.size (.stringIter s (i + 1)) = wn at hnx HB1 HI1
          go_wp2_with fail
          refine (Any.strings_IndexRune_ascii { Tryd.lays153 with } _ _ _ (by omega) (by omega)).mono ?_
          rintro e w2 ⟨rfl, rfl⟩
          rw [HBk.out, qn_list]
          go_wp2_with fail
          go_roundg g
          case measure => omega
          case rel => exact ⟨i + 1, by omega, by omega, HI1, HB1, Lib.hid (HN.out.succ Hx.out Hin.out)⟩
        · rw [hin] at hcon
          have hge : (0 : Int) ≤ Lib.indexByte [34, 10] x := of_decide_eq_true hcon.symm
          have Hin := Lib.hid hin
          clear hcon hin
          generalize putB wr w'.heap.size (.stringIter s (i + 1)) = wn at hnx HB1 HI1
          go_wp2_with fail
          refine (Any.strings_IndexRune_ascii { Tryd.lays153 with } _ _ _ (by omega) (by omega)).mono ?_
          rintro e w2 ⟨rfl, rfl⟩
          rw [HBk.out, qn_list]
          go_wp2_with fail
          go_ret
          exact ⟨by rw [Lib.indexAny_hit HN.out Hx.out Hin.out]; rfl, HB1.out⟩
      · obtain ⟨c, k, hd, hc0, hc1, hcv, hk1, hk2, hall⟩ := decode_high s i hi (by omega)
        have hnx := fun ty => run_next_str wr w'.heap.size s i ty HI.out hi c k hd
        have HB1 : Hid (Below w'.heap.size w' (putB wr w'.heap.size (.stringIter s (i + k)))) := Lib.hid (putB_below HB.out (Nat.le_refl _) _)
        have HI1 : Hid ((putB wr w'.heap.size (.stringIter s (i + k))).heap[w'.heap.size]? = some (.stringIter s (i + k))) := Lib.hid (putB_at HI.out)
        have HN1 : Hid (Lib.NoAny s.data.toList [34, 10] (i + k)) := Lib.hid (noany_more HN.out hall)
        have HCV := Lib.hid hcv
        clear hd hall hcv
        generalize putB wr w'.heap.size (.stringIter s (i + k)) = wn at hnx HB1 HI1
        go_wp2_with fail
        refine (rune_any (c : Int) (by omega) (by omega) HCV.out _).mono ?_
        rintro e w2 ⟨rfl, hb2⟩
        have HB2 := Lib.hid (below_step HB1.out hb2)
        have HI2 := Lib.hid (blk_below HI1.out hb2)
        clear hb2
        go_wp2_with fail
        go_roundg g
        case measure => omega
        case rel => exact ⟨i + k, by omega, by omega, HI2, HB2, HN1⟩
    · have hnx := fun ty => run_next_stop wr w'.heap.size s i ty HI.out hi
      have HE : Hid (Lib.indexAny s.data.toList [34, 10] = -1) := Lib.hid (Lib.indexAny_none (by
        have := HN.out
        rwa [show i = s.data.toList.length by rw [← hsz.out]; omega] at this))
      go_wp2_with fail
      go_ret
      exact ⟨by rw [HE.out]; rfl, HB.out⟩
/-- strings.IndexAny at the two bytes, on any bytes -/
theorem any_calls (s : ByteArray) (hs : s.size ≤ 20000) (w : World) :
    Calls Tryd.prog 73 #[.string s, .string qn] w fun e w' => e = .returned (.int .i64 (Lib.indexAny s.data.toList [34, 10])) ∧ Below w.heap.size w w' := by
  by_cases h8 : s.size ≤ 8
  · exact any_short s h8 w
  · have hz := zero_of_info any_info
    refine (Any.strings_IndexAny_long Tryd.lays153 hz.1 hz.2 s qn w (by decide) (by omega) (by omega) (by decide) ?_).mono ?_
    · intro j b hj
      match j, hj with
      | 0, hj => injection hj with hj; subst hj; decide
      | 1, hj => injection hj with hj; subst hj; decide
    · rintro e w' ⟨rfl, rfl⟩
      exact ⟨rfl, below_alloc (below_alloc (Below.refl _ _) _) _⟩
end Go.Proofs.YtamabdijeklgjaaDoor.Ext

/- lexer.scanner.next, walked: string literals; next whole. -/
namespace Go.Proofs.YtamabdijeklgjaaDoor.Ext
open Go Go.Proofs Go.RowKit Go.Proofs.YtamabdijeklgjaaDoorW.PrintWords
set_option linter.unusedVariables false
set_option linter.unusedSimpArgs false

theorem indexAny_find (l : List UInt8) : Lib.indexAny l [34, 10] = match l.findIdx? (fun b => b == 34 || b == 10) with
    | none => -1
    | some n => (n : Int) := by
  induction l with
  | nil => rfl
  | cons b t ih =>
    rw [Lib.indexAny, List.findIdx?_cons]
    have hb : [34, 10].contains b = (b == 34 || b == 10) := by cases h1 : b == 34 <;> cases h2 : b == 10 <;> simp [List.contains, List.elem, h1, h2]
    rw [hb]
    by_cases h : (b == 34 || b == 10) = true
    · rw [if_pos h, if_pos h]
      rfl
    · rw [if_neg h, if_neg h, ih]
      cases h : t.findIdx? (fun b => b == 34 || b == 10) with
      | none => simp
      | some n =>
        have : ¬ ((n : Int) == -1) = true := by simp
        simp only [Option.map_some]
        rw [if_neg this]
        simp
set_option maxRecDepth 100000 in
set_option maxHeartbeats 4000000 in
theorem next_str_none (b : Nat) (s : ByteArray) (i : Nat) (hs : s.size ≤ 20000) (hi : i < s.size) (w : World) (h : ScanAt w b s) (hc : clsAt s.data.toList i = 6) (hx : (s.data.toList.drop (i + 1)).findIdx? (fun b => b == 34 || b == 10) = none) :
    Calls Tryd.prog 55 #[.pointer (some ⟨b, 0, none⟩), .int .i64 i] w fun e w' => e = .returned (nxtV (Nxt.err 6)) ∧ Below w.heap.size w w' := by
  obtain ⟨r, hr⟩ : ∃ r, s.extract (i + 1) s.size = r := ⟨_, rfl⟩
  have hrl : r.data.toList = s.data.toList.drop (i + 1) := by rw [← hr]; exact Lib.extract_to_end s (i + 1)
  have hrs : r.size ≤ 20000 := by rw [← hr, ByteArray.size_extract]; omega
  have HR := Lib.hid hr
  have HRL := Lib.hid hrl
  have hfi := indexAny_find r.data.toList
  rw [hrl, hx] at hfi
  have HF := Lib.hid hfi
  clear hfi
  clear hr hrl hx
  have H := Lib.hid h
  have HC := Lib.hid hc
  have HSZ := Lib.hid (Lib.size_eq s)
  clear h hc
  have B0 : Hid (Below w.heap.size w (w.alloc (.cells #[.int .i64 0, .string ⟨#[]⟩, .int .i64 0, .int .i64 0] 104))) := Lib.hid ((Below.refl _ _).alloc (Nat.le_refl _) _)
  have K0 : Hid ((w.alloc (.cells #[.int .i64 0, .string ⟨#[]⟩, .int .i64 0, .int .i64 0] 104)).heap[w.heap.size]? = some (.cells #[.int .i64 0, .string ⟨#[]⟩, .int .i64 0, .int .i64 0] 104 (0, 0))) := Lib.hid (blk_new w _)
  have S0 : Hid (ScanAt (w.alloc (.cells #[.int .i64 0, .string ⟨#[]⟩, .int .i64 0, .int .i64 0] 104)) b s) := Lib.hid (H.out.below B0.out)
  go_enter Tryd.func55, Tryd.ntmps55
  go_wp2_with fail
  generalize w.alloc (.cells #[.int .i64 0, .string ⟨#[]⟩, .int .i64 0, .int .i64 0] 104) = w1 at B0 K0 S0
  generalize hq : w.heap.size = B at B0 K0
  have HQ := Lib.hid hq
  clear hq
  refine (at_calls b s i (by omega) (by omega) _ S0.out).mono ?_
  rintro e w2 ⟨rfl, n1, hw⟩
  rw [HC.out]
  have hb2 : Below w1.heap.size w1 w2 := by rw [hw]; exact bdr (Below.refl _ _) n1
  clear hw
  replace B0 := Lib.hid (below_up B0.out (blk_lt K0.out) hb2)
  replace K0 := Lib.hid (blk_below K0.out hb2)
  replace S0 := Lib.hid (S0.out.below hb2)
  clear hb2
  have cs := S0.out.text
  go_wp2_with fail
  rw [HR.out]
  clear cs
  go_wp2_with fail
  refine (any_calls r hrs w2).mono ?_
  rintro e w3 ⟨rfl, hb2⟩
  rw [HRL.out, HF.out]
  replace B0 := Lib.hid (below_up B0.out (blk_lt K0.out) hb2)
  replace K0 := Lib.hid (blk_below K0.out hb2)
  replace S0 := Lib.hid (S0.out.below hb2)
  clear hb2
  have c0 := blk_cell K0.out 0
  have c1 := blk_cell K0.out 1
  have c2 := blk_cell K0.out 2
  have c3 := blk_cell K0.out 3
  have f0 := blk_frozen K0.out 0
  have f1 := blk_frozen K0.out 1
  have f2 := blk_frozen K0.out 2
  have f3 := blk_frozen K0.out 3
  have cs := S0.out.text
  go_wp2_with fail
  refine tok_end rfl rfl (tok_ret K0.out B0.out (Nat.le_refl _) _ _ _ _).1 Tryd.underlying104 rfl (by kernel_rfl) rfl ⟨rfl, ?_⟩
  rw [HQ.out]
  exact (tok_ret K0.out B0.out (Nat.le_refl _) _ _ _ _).2
set_option maxRecDepth 100000 in
set_option maxHeartbeats 4000000 in
theorem next_str_line (b : Nat) (s : ByteArray) (i : Nat) (hs : s.size ≤ 20000) (hi : i < s.size) (w : World) (h : ScanAt w b s) (hc : clsAt s.data.toList i = 6) (n : Nat) (hx : (s.data.toList.drop (i + 1)).findIdx? (fun b => b == 34 || b == 10) = some n) (hn : (s.data.toList.drop (i + 1))[n]? = some 10) :
    Calls Tryd.prog 55 #[.pointer (some ⟨b, 0, none⟩), .int .i64 i] w fun e w' => e = .returned (nxtV (Nxt.err 6)) ∧ Below w.heap.size w w' := by
  obtain ⟨r, hr⟩ : ∃ r, s.extract (i + 1) s.size = r := ⟨_, rfl⟩
  have hrl : r.data.toList = s.data.toList.drop (i + 1) := by rw [← hr]; exact Lib.extract_to_end s (i + 1)
  have hrs : r.size ≤ 20000 := by rw [← hr, ByteArray.size_extract]; omega
  have HR := Lib.hid hr
  have HRL := Lib.hid hrl
  have hfi := indexAny_find r.data.toList
  rw [hrl, hx] at hfi
  have HF := Lib.hid hfi
  clear hfi
  obtain ⟨hnl, hnp, hnq⟩ := List.findIdx?_eq_some_iff_getElem.1 hx
  have hnr : n < r.size := by rw [Lib.size_eq, hrl]; exact hnl
  obtain ⟨x, hxx⟩ : ∃ x : UInt8, r[n]'hnr = x := ⟨_, rfl⟩
  have hxl : (s.data.toList.drop (i + 1))[n]? = some x := by rw [← hxx, ← hrl]; exact Lib.data_getElem? r n hnr
  have hx10 : x = 10 := by rw [hn] at hxl; injection hxl with h; exact h.symm
  subst hx10
  have hxe : (r[n]'hnr).toNat = 10 := by rw [hxx]; rfl
  clear hr hrl hx hn hxl hnq hnp hnl hxx
  have H := Lib.hid h
  have HC := Lib.hid hc
  have HSZ := Lib.hid (Lib.size_eq s)
  clear h hc
  have B0 : Hid (Below w.heap.size w (w.alloc (.cells #[.int .i64 0, .string ⟨#[]⟩, .int .i64 0, .int .i64 0] 104))) := Lib.hid ((Below.refl _ _).alloc (Nat.le_refl _) _)
  have K0 : Hid ((w.alloc (.cells #[.int .i64 0, .string ⟨#[]⟩, .int .i64 0, .int .i64 0] 104)).heap[w.heap.size]? = some (.cells #[.int .i64 0, .string ⟨#[]⟩, .int .i64 0, .int .i64 0] 104 (0, 0))) := Lib.hid (blk_new w _)
  have S0 : Hid (ScanAt (w.alloc (.cells #[.int .i64 0, .string ⟨#[]⟩, .int .i64 0, .int .i64 0] 104)) b s) := Lib.hid (H.out.below B0.out)
  go_enter Tryd.func55, Tryd.ntmps55
  go_wp2_with fail
  generalize w.alloc (.cells #[.int .i64 0, .string ⟨#[]⟩, .int .i64 0, .int .i64 0] 104) = w1 at B0 K0 S0
  generalize hq : w.heap.size = B at B0 K0
  have HQ := Lib.hid hq
  clear hq
  refine (at_calls b s i (by omega) (by omega) _ S0.out).mono ?_
  rintro e w2 ⟨rfl, n1, hw⟩
  rw [HC.out]
  have hb2 : Below w1.heap.size w1 w2 := by rw [hw]; exact bdr (Below.refl _ _) n1
  clear hw
  replace B0 := Lib.hid (below_up B0.out (blk_lt K0.out) hb2)
  replace K0 := Lib.hid (blk_below K0.out hb2)
  replace S0 := Lib.hid (S0.out.below hb2)
  clear hb2
  have cs := S0.out.text
  go_wp2_with fail
  rw [HR.out]
  clear cs
  go_wp2_with fail
  refine (any_calls r hrs w2).mono ?_
  rintro e w3 ⟨rfl, hb2⟩
  rw [HRL.out, HF.out]
  replace B0 := Lib.hid (below_up B0.out (blk_lt K0.out) hb2)
  replace K0 := Lib.hid (blk_below K0.out hb2)
  replace S0 := Lib.hid (S0.out.below hb2)
  clear hb2
  have c0 := blk_cell K0.out 0
  have c1 := blk_cell K0.out 1
  have c2 := blk_cell K0.out 2
  have c3 := blk_cell K0.out 3
  have f0 := blk_frozen K0.out 0
  have f1 := blk_frozen K0.out 1
  have f2 := blk_frozen K0.out 2
  have f3 := blk_frozen K0.out 3
  have cs := S0.out.text
  go_wp2_with fail
  refine tok_end rfl rfl (tok_ret K0.out B0.out (Nat.le_refl _) _ _ _ _).1 Tryd.underlying104 rfl (by kernel_rfl) rfl ⟨rfl, ?_⟩
  rw [HQ.out]
  exact (tok_ret K0.out B0.out (Nat.le_refl _) _ _ _ _).2
set_option maxRecDepth 100000 in
set_option maxHeartbeats 4000000 in
theorem next_str_long (b : Nat) (s : ByteArray) (i : Nat) (hs : s.size ≤ 20000) (hi : i < s.size) (w : World) (h : ScanAt w b s) (hc : clsAt s.data.toList i = 6) (n : Nat) (hx : (s.data.toList.drop (i + 1)).findIdx? (fun b => b == 34 || b == 10) = some n) (hn : (s.data.toList.drop (i + 1))[n]? ≠ some 10) (hlong : 400 < n) :
    Calls Tryd.prog 55 #[.pointer (some ⟨b, 0, none⟩), .int .i64 i] w fun e w' => e = .returned (nxtV (Nxt.err 2)) ∧ Below w.heap.size w w' := by
  obtain ⟨r, hr⟩ : ∃ r, s.extract (i + 1) s.size = r := ⟨_, rfl⟩
  have hrl : r.data.toList = s.data.toList.drop (i + 1) := by rw [← hr]; exact Lib.extract_to_end s (i + 1)
  have hrs : r.size ≤ 20000 := by rw [← hr, ByteArray.size_extract]; omega
  have HR := Lib.hid hr
  have HRL := Lib.hid hrl
  have hfi := indexAny_find r.data.toList
  rw [hrl, hx] at hfi
  have HF := Lib.hid hfi
  clear hfi
  obtain ⟨hnl, hnp, hnq⟩ := List.findIdx?_eq_some_iff_getElem.1 hx
  have hnr : n < r.size := by rw [Lib.size_eq, hrl]; exact hnl
  obtain ⟨x, hxx⟩ : ∃ x : UInt8, r[n]'hnr = x := ⟨_, rfl⟩
  have hxl : (s.data.toList.drop (i + 1))[n]? = some x := by rw [← hxx, ← hrl]; exact Lib.data_getElem? r n hnr
  have hx10 : x ≠ 10 := fun e => hn (by rw [hxl, e])
  have hxe : (((r[n]'hnr).toNat : Int) == 10) = false := by
    rw [hxx]
    have : x.toNat ≠ 10 := fun e => hx10 (UInt8.toNat_inj.1 e)
    simp
    omega
  clear hr hrl hx hn hxl hnq hnp hnl hxx hx10
  have hz : (400 : Int) < (n : Int) := by omega
  have H := Lib.hid h
  have HC := Lib.hid hc
  have HSZ := Lib.hid (Lib.size_eq s)
  clear h hc
  have B0 : Hid (Below w.heap.size w (w.alloc (.cells #[.int .i64 0, .string ⟨#[]⟩, .int .i64 0, .int .i64 0] 104))) := Lib.hid ((Below.refl _ _).alloc (Nat.le_refl _) _)
  have K0 : Hid ((w.alloc (.cells #[.int .i64 0, .string ⟨#[]⟩, .int .i64 0, .int .i64 0] 104)).heap[w.heap.size]? = some (.cells #[.int .i64 0, .string ⟨#[]⟩, .int .i64 0, .int .i64 0] 104 (0, 0))) := Lib.hid (blk_new w _)
  have S0 : Hid (ScanAt (w.alloc (.cells #[.int .i64 0, .string ⟨#[]⟩, .int .i64 0, .int .i64 0] 104)) b s) := Lib.hid (H.out.below B0.out)
  go_enter Tryd.func55, Tryd.ntmps55
  go_wp2_with fail
  generalize w.alloc (.cells #[.int .i64 0, .string ⟨#[]⟩, .int .i64 0, .int .i64 0] 104) = w1 at B0 K0 S0
  generalize hq : w.heap.size = B at B0 K0
  have HQ := Lib.hid hq
  clear hq
  refine (at_calls b s i (by omega) (by omega) _ S0.out).mono ?_
  rintro e w2 ⟨rfl, n1, hw⟩
  rw [HC.out]
  have hb2 : Below w1.heap.size w1 w2 := by rw [hw]; exact bdr (Below.refl _ _) n1
  clear hw
  replace B0 := Lib.hid (below_up B0.out (blk_lt K0.out) hb2)
  replace K0 := Lib.hid (blk_below K0.out hb2)
  replace S0 := Lib.hid (S0.out.below hb2)
  clear hb2
  have cs := S0.out.text
  go_wp2_with fail
  rw [HR.out]
  clear cs
  go_wp2_with fail
  refine (any_calls r hrs w2).mono ?_
  rintro e w3 ⟨rfl, hb2⟩
  rw [HRL.out, HF.out]
  replace B0 := Lib.hid (below_up B0.out (blk_lt K0.out) hb2)
  replace K0 := Lib.hid (blk_below K0.out hb2)
  replace S0 := Lib.hid (S0.out.below hb2)
  clear hb2
  have c0 := blk_cell K0.out 0
  have c1 := blk_cell K0.out 1
  have c2 := blk_cell K0.out 2
  have c3 := blk_cell K0.out 3
  have f0 := blk_frozen K0.out 0
  have f1 := blk_frozen K0.out 1
  have f2 := blk_frozen K0.out 2
  have f3 := blk_frozen K0.out 3
  have cs := S0.out.text
  go_wp2_with fail
  refine tok_end rfl rfl (tok_ret K0.out B0.out (Nat.le_refl _) _ _ _ _).1 Tryd.underlying104 rfl (by kernel_rfl) rfl ⟨rfl, ?_⟩
  rw [HQ.out]
  exact (tok_ret K0.out B0.out (Nat.le_refl _) _ _ _ _).2
set_option maxRecDepth 100000 in
set_option maxHeartbeats 4000000 in
theorem next_str (b : Nat) (s : ByteArray) (i : Nat) (hs : s.size ≤ 20000) (hi : i < s.size) (w : World) (h : ScanAt w b s) (hc : clsAt s.data.toList i = 6) (n : Nat) (hx : (s.data.toList.drop (i + 1)).findIdx? (fun b => b == 34 || b == 10) = some n) (hn : (s.data.toList.drop (i + 1))[n]? ≠ some 10) (hlong : ¬ 400 < n) :
    Calls Tryd.prog 55 #[.pointer (some ⟨b, 0, none⟩), .int .i64 i] w fun e w' => e = .returned (nxtV (.tok ⟨3, (s.data.toList.drop (i + 1)).take n, 0, i⟩ (i + n + 2))) ∧ Below w.heap.size w w' := by
  obtain ⟨r, hr⟩ : ∃ r, s.extract (i + 1) s.size = r := ⟨_, rfl⟩
  have hrl : r.data.toList = s.data.toList.drop (i + 1) := by rw [← hr]; exact Lib.extract_to_end s (i + 1)
  have hrs : r.size ≤ 20000 := by rw [← hr, ByteArray.size_extract]; omega
  have HR := Lib.hid hr
  have HRL := Lib.hid hrl
  have hfi := indexAny_find r.data.toList
  rw [hrl, hx] at hfi
  have HF := Lib.hid hfi
  clear hfi
  obtain ⟨hnl, hnp, hnq⟩ := List.findIdx?_eq_some_iff_getElem.1 hx
  have hnr : n < r.size := by rw [Lib.size_eq, hrl]; exact hnl
  obtain ⟨x, hxx⟩ : ∃ x : UInt8, r[n]'hnr = x := ⟨_, rfl⟩
  have hxl : (s.data.toList.drop (i + 1))[n]? = some x := by rw [← hxx, ← hrl]; exact Lib.data_getElem? r n hnr
  have hx10 : x ≠ 10 := fun e => hn (by rw [hxl, e])
  have hxe : (((r[n]'hnr).toNat : Int) == 10) = false := by
    rw [hxx]
    have : x.toNat ≠ 10 := fun e => hx10 (UInt8.toNat_inj.1 e)
    simp
    omega
  have hsub : r.extract 0 n = bs ((s.data.toList.drop (i + 1)).take n) := bs_of _ _ (by rw [Lib.extract_data, hrl]; simp)
  have HSUB := Lib.hid hsub
  clear hsub
  clear hr hrl hx hn hxl hnq hnp hnl hxx hx10
  have hz : ¬ (400 : Int) < (n : Int) := by omega
  have H := Lib.hid h
  have HC := Lib.hid hc
  have HSZ := Lib.hid (Lib.size_eq s)
  clear h hc
  have B0 : Hid (Below w.heap.size w (w.alloc (.cells #[.int .i64 0, .string ⟨#[]⟩, .int .i64 0, .int .i64 0] 104))) := Lib.hid ((Below.refl _ _).alloc (Nat.le_refl _) _)
  have K0 : Hid ((w.alloc (.cells #[.int .i64 0, .string ⟨#[]⟩, .int .i64 0, .int .i64 0] 104)).heap[w.heap.size]? = some (.cells #[.int .i64 0, .string ⟨#[]⟩, .int .i64 0, .int .i64 0] 104 (0, 0))) := Lib.hid (blk_new w _)
  have S0 : Hid (ScanAt (w.alloc (.cells #[.int .i64 0, .string ⟨#[]⟩, .int .i64 0, .int .i64 0] 104)) b s) := Lib.hid (H.out.below B0.out)
  go_enter Tryd.func55, Tryd.ntmps55
  go_wp2_with fail
  generalize w.alloc (.cells #[.int .i64 0, .string ⟨#[]⟩, .int .i64 0, .int .i64 0] 104) = w1 at B0 K0 S0
  generalize hq : w.heap.size = B at B0 K0
  have HQ := Lib.hid hq
  clear hq
  refine (at_calls b s i (by omega) (by omega) _ S0.out).mono ?_
  rintro e w2 ⟨rfl, n1, hw⟩
  rw [HC.out]
  have hb2 : Below w1.heap.size w1 w2 := by rw [hw]; exact bdr (Below.refl _ _) n1
  clear hw
  replace B0 := Lib.hid (below_up B0.out (blk_lt K0.out) hb2)
  replace K0 := Lib.hid (blk_below K0.out hb2)
  replace S0 := Lib.hid (S0.out.below hb2)
  clear hb2
  have cs := S0.out.text
  go_wp2_with fail
  rw [HR.out]
  clear cs
  go_wp2_with fail
  refine (any_calls r hrs w2).mono ?_
  rintro e w3 ⟨rfl, hb2⟩
  rw [HRL.out, HF.out]
  replace B0 := Lib.hid (below_up B0.out (blk_lt K0.out) hb2)
  replace K0 := Lib.hid (blk_below K0.out hb2)
  replace S0 := Lib.hid (S0.out.below hb2)
  clear hb2
  have c0 := blk_cell K0.out 0
  have c1 := blk_cell K0.out 1
  have c2 := blk_cell K0.out 2
  have c3 := blk_cell K0.out 3
  have f0 := blk_frozen K0.out 0
  have f1 := blk_frozen K0.out 1
  have f2 := blk_frozen K0.out 2
  have f3 := blk_frozen K0.out 3
  have cs := S0.out.text
  go_wp2_with fail
  rw [HSUB.out]
  refine tok_end rfl rfl (tok_ret K0.out B0.out (Nat.le_refl _) _ _ _ _).1 Tryd.underlying104 rfl (by kernel_rfl) rfl ⟨rfl, ?_⟩
  rw [HQ.out]
  exact (tok_ret K0.out B0.out (Nat.le_refl _) _ _ _ _).2

theorem cls_cases (l : List UInt8) (i : Nat) : clsAt l i = 0 ∨ clsAt l i = 1 ∨ clsAt l i = 2 ∨ clsAt l i = 3 ∨ clsAt l i = 4 ∨ clsAt l i = 5 ∨ clsAt l i = 6 ∨ clsAt l i = 7 ∨ clsAt l i = 8 ∨ clsAt l i = 9 := by
  have : ∀ k ∈ List.range 256, clsN k = 0 ∨ clsN k = 1 ∨ clsN k = 2 ∨ clsN k = 3 ∨ clsN k = 4 ∨ clsN k = 5 ∨ clsN k = 6 ∨ clsN k = 7 ∨ clsN k = 8 ∨ clsN k = 9 := by decide +kernel
  unfold clsAt
  split
  · rename_i b _
    exact this b.toNat (by simp; exact UInt8.toNat_lt b)
  · exact Or.inl rfl
/-- lexer.scanner.next -/
theorem next_calls (b : Nat) (s : ByteArray) (i : Nat) (hs : s.size ≤ 20000) (hi : i < s.size) (w : World) (h : ScanAt w b s) :
    Calls Tryd.prog 55 #[.pointer (some ⟨b, 0, none⟩), .int .i64 i] w fun e w' => e = .returned (nxtV (nextL s.data.toList i)) ∧ Below w.heap.size w w' := by
  have hcl := cls_cases s.data.toList i
  obtain ⟨c, hc⟩ : ∃ c, clsAt s.data.toList i = c := ⟨_, rfl⟩
  rw [hc] at hcl
  unfold nextL
  rw [hc]
  rcases hcl with rfl | rfl | rfl | rfl | rfl | rfl | rfl | rfl | rfl | rfl
  · exact next_c0 b s i hs hi w h hc
  · exact next_c1 b s i hs hi w h hc
  · exact next_c2 b s i hs hi w h hc
  · rw [if_pos rfl]
    unfold nameN
    split
    · exact next_name_long b s i hs hi w h hc ‹_›
    · exact next_name b s i hs hi w h hc ‹_›
  · rw [if_neg (by decide), if_pos rfl]
    unfold numN
    split
    · rename_i hx
      by_cases h1 : 13 < spanE [4] s.data.toList i - i
      · exact next_num_long b s i hs hi w h hc h1
      · rcases hx with h2 | h2 | h2
        · exact absurd h2 h1
        · exact next_num_at3 b s i hs hi w h hc h1 h2
        · exact next_num_at5 b s i hs hi w h hc h1 h2
    · rename_i hx
      exact next_num b s i hs hi w h hc (fun h => hx (Or.inl h)) (fun h => hx (Or.inr (Or.inl h))) (fun h => hx (Or.inr (Or.inr h)))
  · exact next_c5 b s i hs hi w h hc
  · rw [if_neg (by decide), if_neg (by decide), if_pos rfl]
    unfold strN
    cases hf : (s.data.toList.drop (i + 1)).findIdx? (fun b => b == 34 || b == 10) with
    | none => exact next_str_none b s i hs hi w h hc hf
    | some n =>
      dsimp only
      split
      · exact next_str_line b s i hs hi w h hc n hf ‹_›
      · split
        · exact next_str_long b s i hs hi w h hc n hf ‹_› ‹_›
        · exact next_str b s i hs hi w h hc n hf ‹_› ‹_›
  · rw [if_neg (by decide), if_neg (by decide), if_neg (by decide), if_pos rfl]
    split
    · exact next_two7 b s i hs hi w h hc ‹_›
    · exact next_mark b s i hs hi w h hc ‹_›
  · rw [if_neg (by decide), if_neg (by decide), if_neg (by decide), if_neg (by decide), if_pos rfl]
    split
    · exact next_two8 b s i hs hi w h hc ‹_›
    · exact next_ang b s i hs hi w h hc ‹_›
  · rw [if_neg (by decide), if_neg (by decide), if_neg (by decide), if_neg (by decide), if_neg (by decide), if_pos rfl]
    exact next_sym b s i hs hi w h hc
end Go.Proofs.YtamabdijeklgjaaDoor.Ext

/- lexer.Lex, walked. -/
namespace Go.Proofs.YtamabdijeklgjaaDoor.Ext
open Go Go.Proofs Go.RowKit Go.Proofs.YtamabdijeklgjaaDoorW.PrintWords
set_option linter.unusedVariables false
set_option linter.unusedSimpArgs false

set_option maxRecDepth 100000 in
set_option maxHeartbeats 1000000 in
theorem lex_long (s : ByteArray) (hs : 20000 < s.size) (w : World) :
    Calls Tryd.prog 35 #[.string s] w fun e w' => e = .returned (.tuple #[.slice none 0 0, .int .i64 2, .int .i64 (-1)]) ∧ Below w.heap.size w w' := by
  have hz : (20000 : Int) < (s.size : Int) := by omega
  go_enter Tryd.func35, Tryd.ntmps35
  go_wp2_with fail
  go_ret3
  exact ⟨rfl, Below.refl _ _⟩
def scanC (s : ByteArray) : List Value := .string s :: clsL.map (Value.int .i64)
def scanZ : Array Value := #[.string ⟨#[]⟩] ++ Array.replicate 256 (.int .i64 0)
theorem scan_zero : (Tryd.prog.info? 113).map (fun i => (i.zero, i.size)) = some (some (.agg scanZ), 257) := by kernel_rfl
theorem scan_build (s : ByteArray) (w : World) : (Instr.build 113 #[(0, .string s), (1, .agg (clsL.map (Value.int .i64)).toArray)]).run Tryd.prog w = .ok (.agg (scanC s).toArray) w := by kernel_rfl
theorem scanC_size (s : ByteArray) : (scanC s).toArray.size = 257 := by
  unfold scanC
  rw [List.size_toArray, List.length_cons, List.length_map, clsL_length]
theorem scanC_one (s : ByteArray) : (scanC s).toArray.all (·.oneCell') = true := by
  apply all_oneCell_toArray
  intro v hv
  unfold scanC at hv
  rcases List.mem_cons.1 hv with rfl | hv
  · rfl
  · obtain ⟨n, _, rfl⟩ := List.mem_map.1 hv
    rfl
theorem scanZ_size : scanZ.size = 257 := by
  unfold scanZ
  rw [Array.size_append, Array.size_replicate]
  rfl
theorem scan_at (s : ByteArray) (w : World) : ScanAt (w.alloc (.cells (scanC s).toArray 113)) w.heap.size s := blk_new w _

/-! ### the spec: progress -/
theorem gapE_le (f : Nat) : ∀ (l : List UInt8) (i : Nat), i ≤ l.length → gapE f l i ≤ l.length := by
  induction f with
  | zero => intro l i h; exact h
  | succ f ih =>
    intro l i h
    unfold gapE
    have hs := spanE_le [1] l i h
    split
    · rename_i hc
      cases ho : (l.drop (spanE [1] l i)).findIdx? (· == 10) with
      | none => exact Nat.le_refl _
      | some n => exact ih l _ (Nat.le_of_lt (find_hash hc ho).2)
    · exact hs
theorem gapE_ge (f : Nat) : ∀ (l : List UInt8) (i : Nat), i ≤ l.length → i ≤ gapE f l i := by
  induction f with
  | zero => intro l i h; exact Nat.le_refl _
  | succ f ih =>
    intro l i h
    unfold gapE
    have hg := spanE_ge [1] l i
    have hs := spanE_le [1] l i h
    split
    · rename_i hc
      cases ho : (l.drop (spanE [1] l i)).findIdx? (· == 10) with
      | none => exact h
      | some n => exact Nat.le_trans (by omega) (ih l _ (Nat.le_of_lt (find_hash hc ho).2))
    · exact hg
theorem gapL_le (l : List UInt8) (i : Nat) (h : i ≤ l.length) : gapL l i ≤ l.length := gapE_le _ l i h
theorem gapL_ge (l : List UInt8) (i : Nat) (h : i ≤ l.length) : i ≤ gapL l i := gapE_ge _ l i h
theorem span_more (c : Int) (cs : List Int) (l : List UInt8) (i : Nat) (h : clsAt l i = c) (h0 : c ≠ 0) (hc : cs.contains c = true) : i + 1 ≤ spanE cs l i := by
  have hl := clsAt_lt (l := l) (i := i) (by rw [h]; exact h0)
  have hx : l[i]? = some l[i] := List.getElem?_eq_getElem hl
  have hc' : cls l[i] = c := by
    unfold clsAt at h
    rw [hx] at h
    exact h
  rw [spanE_yes cs l i _ hx (by rw [hc']; exact hc)]
  exact spanE_ge _ _ _
theorem nextL_tok {l : List UInt8} {i : Nat} {t : Tok} {k : Nat} (hi : i < l.length) (h : nextL l i = .tok t k) : i < k ∧ k ≤ l.length := by
  unfold nextL at h
  split at h
  · rename_i hc
    unfold nameN at h
    split at h
    · cases h
    · injection h with _ h
      subst h
      exact ⟨span_more 3 _ l i hc (by decide) (by decide), spanE_le _ l i (Nat.le_of_lt hi)⟩
  · split at h
    · rename_i hc
      unfold numN at h
      split at h
      · cases h
      · injection h with _ h
        subst h
        exact ⟨span_more 4 _ l i hc (by decide) (by decide), spanE_le _ l i (Nat.le_of_lt hi)⟩
    · split at h
      · unfold strN at h
        cases ho : (l.drop (i + 1)).findIdx? (fun b => b == 34 || b == 10) with
        | none => rw [ho] at h; cases h
        | some n =>
          rw [ho] at h
          dsimp only at h
          have hn := (List.findIdx?_eq_some_iff_getElem.1 ho).1
          rw [List.length_drop] at hn
          split at h
          · cases h
          · split at h
            · cases h
            · injection h with _ h
              subst h
              omega
      · have two : ∀ {k : Nat} {t : Tok}, l[i + 1]? = some 61 → twoN l i = .tok t k → i < k ∧ k ≤ l.length := by
          intro k t hx h
          unfold twoN at h
          injection h with _ h
          subst h
          have := (List.getElem?_eq_some_iff.1 hx).1
          omega
        have one : ∀ {k : Nat} {t : Tok}, symN l i = .tok t k → i < k ∧ k ≤ l.length := by
          intro k t h
          unfold symN at h
          injection h with _ h
          subst h
          omega
        split at h
        · split at h
          · exact two ‹_› h
          · cases h
        · split at h
          · split at h
            · exact two ‹_› h
            · exact one h
          · split at h
            · exact one h
            · cases h
theorem nextL_err {l : List UInt8} {i : Nat} {e : Int} (h : nextL l i = .err e) : e ≠ 0 := by
  unfold nextL nameN numN strN twoN symN at h
  repeat' split at h
  all_goals first | (cases h; decide) | (injection h with h; subst h; decide) | cases h
/-! ### the tokens' row -/
def encT (ts : List Tok) : List Value := ts.flatMap fun t => [.int .i64 t.kind, .string (bs t.text), .int .i64 t.n, .int .i64 t.at_]
theorem encT_append (a b : List Tok) : encT (a ++ b) = encT a ++ encT b := by
  unfold encT
  rw [List.flatMap_append]
theorem encT_one (t : Tok) : encT [t] = [.int .i64 t.kind, .string (bs t.text), .int .i64 t.n, .int .i64 t.at_] := by
  unfold encT
  simp
theorem infoT : (Tryd.prog.info? 104).map (fun i => (i.zero, i.size, i.bytes)) = some (some (.agg #[.int .i64 0, .string ⟨#[]⟩, .int .i64 0, .int .i64 0]), 4, 40) := by kernel_rfl
def lexV : LexR → Value → Value
  | .bad e a, _ => .tuple #[.slice none 0 0, .int .i64 e, .int .i64 a]
  | .good _, v => .tuple #[v, .int .i64 0, .int .i64 0]
/-- what Lex leaves: the result, and the tokens' row -/
def LexPost (w : World) (R : LexR) (e : Ending) (w' : World) : Prop := ∃ v, e = .returned (lexV R v) ∧ Below w.heap.size w w' ∧ ∀ ts, R = .good ts → w'.ownsRow w.heap.size 104 4 v ts.length (encT ts)
theorem wpList_build_ {P : Program} {ops : Array Oper} {rest : List Oper} {op : Oper} {a : Act} {w : World} {Q : Exit → Act → World → Prop} (hgd : op.guard = none) (t : TypeId) (parts : Array (Nat × Operand)) (ho : op.op = .build t parts) (v : Value)
    (vs : List (Nat × Value)) (hvs : parts.toList.map (fun x => (x.1, a.eval x.2)) = vs) (hrun : (Instr.build t vs.toArray).run P w = .ok v w) (h : wpList P ops Q rest (a.put op.dst v) w) : wpList P ops Q (op :: rest) a w :=
  wpList_plain hgd fun _ hK => by
    have e : (parts.map fun (i, x) => (i, a.eval x)) = vs.toArray := by
      rw [← hvs]
      apply Array.ext'
      simp
    rw [← e] at hrun
    unfold Oper.wp execOp
    simp only [ho]
    simp only [Sem.run_bind, hrun, Result.andThen_ok, Sem.run_pure]
    exact hK _ _ h
theorem wpList_store_new {P : Program} {ops : Array Oper} {rest : List Oper} {op : Oper} {a : Act} {w : World} {Q : Exit → Act → World → Prop} (hgd : op.guard = none) (ty : TypeId) (x y : Operand) (ho : op.op = .store ty x y)
    (c c' : Array Value) (hx : a.eval x = .pointer (some ⟨w.heap.size, 0, none⟩)) (hy : a.eval y = .agg c') (hi : (P.info? ty).map (·.size) = some c'.size) (hs : c.size = c'.size) (h1 : c'.all (·.oneCell') = true)
    (h : wpList P ops Q rest (a.put op.dst undef) (w.alloc (.cells c' ty))) : wpList P ops Q (op :: rest) a (w.alloc (.cells c ty)) :=
  wpList_plain hgd fun _ hK => by
    unfold Oper.wp execOp
    simp only [ho, hx, hy, Sem.run_bind, run_storeAt_new w ty c c' hi hs h1, Result.andThen_ok, Sem.run_pure]
    exact hK _ _ h
end Go.Proofs.YtamabdijeklgjaaDoor.Ext

/- lexer.Lex, walked: the loop. -/
namespace Go.Proofs.YtamabdijeklgjaaDoor.Ext
open Go Go.Proofs Go.RowKit Go.Proofs.YtamabdijeklgjaaDoorW.PrintWords
set_option linter.unusedVariables false
set_option linter.unusedSimpArgs false

def withT (done : List Tok) : LexR → LexR
  | .bad e a => .bad e a
  | .good ts => .good (done ++ ts)
theorem next_err (b : Nat) (s : ByteArray) (i : Nat) (hs : s.size ≤ 20000) (hi : i < s.size) (w : World) (h : ScanAt w b s) (e0 : Int) (hn : nextL s.data.toList i = .err e0) :
    Calls Tryd.prog 55 #[.pointer (some ⟨b, 0, none⟩), .int .i64 i] w fun e w' => e = .returned (.tuple #[.agg #[.int .i64 0, .string ⟨#[]⟩, .int .i64 0, .int .i64 0], .int .i64 0, .int .i64 e0]) ∧ Below w.heap.size w w' := by
  have := next_calls b s i hs hi w h
  rw [hn] at this
  exact this
theorem next_tok (b : Nat) (s : ByteArray) (i : Nat) (hs : s.size ≤ 20000) (hi : i < s.size) (w : World) (h : ScanAt w b s) (t : Tok) (k : Nat) (hn : nextL s.data.toList i = .tok t k) :
    Calls Tryd.prog 55 #[.pointer (some ⟨b, 0, none⟩), .int .i64 i] w fun e w' => e = .returned (.tuple #[.agg #[.int .i64 t.kind, .string (bs t.text), .int .i64 t.n, .int .i64 t.at_], .int .i64 k, .int .i64 0]) ∧ Below w.heap.size w w' := by
  have := next_calls b s i hs hi w h
  rw [hn] at this
  exact this
theorem own_nil_ (w : World) (base : Nat) (e : TypeId) (size : Nat) : w.ownsRow base e size (.slice none 0 0) 0 [] := ⟨by simp, .inl ⟨rfl, rfl⟩⟩
theorem own_below_ {w w' : World} {base : Nat} {e : TypeId} {size n : Nat} {v : Value} {xs : List Value} (h : w.ownsRow base e size v n xs) (hb : Below w.heap.size w w') : w'.ownsRow base e size v n xs := by
  refine h.kept (row := none) ⟨hb.os, hb.tape, hb.output, hb.size, fun k hk _ => hb.block k hk⟩ ?_
  cases hv : v.ownBlock <;> simp
theorem below_grown_own {w w1 w2 : World} {e : TypeId} {size n : Nat} {v : Value} {xs : List Value} (hb : Below w.heap.size w w1) (ho : w1.ownsRow w.heap.size e size v n xs) (hg : w1.grownBy w2 v.ownBlock) : Below w.heap.size w w2 :=
  hb.grown hg hb.size (fun k hk => (ho.lt k hk).1)
theorem own_view {w : World} {base : Nat} {e : TypeId} {size n : Nat} {v : Value} {xs : List Value} (h : w.ownsRow base e size v n xs) : ∃ A c, v = .slice A n c := by
  rcases h.2 with ⟨e1, e2⟩ | ⟨g, cap, cur, e1, _⟩
  · subst e2; exact ⟨_, _, e1⟩
  · exact ⟨_, _, e1⟩
theorem tok_news (w : World) (o : Obj) (ty : TypeId) (t : Tok) {N : Nat} (hN : N = (w.alloc o).heap.size) : ∀ (j : Nat) u, (encT [t])[j]? = some u → ((w.alloc o).alloc (.cells #[.int .i64 t.kind, .string (bs t.text), .int .i64 t.n, .int .i64 t.at_] ty)).cell? ((⟨N, 0, none⟩ : Addr).add j) = some u := by
  subst hN
  intro j u hj
  rw [encT_one] at hj
  match j, hj with
  | 0, hj => simp at hj; subst hj; simp [Addr.add]
  | 1, hj => simp at hj; subst hj; simp [Addr.add]
  | 2, hj => simp at hj; subst hj; simp [Addr.add]
  | 3, hj => simp at hj; subst hj; simp [Addr.add]
set_option maxRecDepth 100000 in
set_option maxHeartbeats 2000000 in
theorem lex_short (s : ByteArray) (hs : s.size ≤ 20000) (w : World) :
    Calls Tryd.prog 35 #[.string s] w (LexPost w (lexE (s.size + 1) s.data.toList 0 (gapL s.data.toList 0))) := by
  have hz : ¬ (20000 : Int) < (s.size : Int) := by omega
  obtain ⟨hz0, hi0⟩ := zero_of_info scan_zero
  obtain ⟨cs, hcs⟩ : ∃ cs, (scanC s).toArray = cs := ⟨_, rfl⟩
  obtain ⟨cl, hcl⟩ : ∃ cl, (clsL.map (Value.int .i64)).toArray = cl := ⟨_, rfl⟩
  obtain ⟨zc, hzc⟩ : ∃ zc, scanZ = zc := ⟨_, rfl⟩
  have hbuild := scan_build s
  rw [hcs, hcl] at hbuild
  rw [hzc] at hz0
  have HBU := Lib.hid hbuild
  have HIC : Hid ((Tryd.prog.info? 113).map (·.size) = some cs.size) := Lib.hid (by rw [hi0, ← hcs, scanC_size])
  have HZC : Hid (zc.size = cs.size) := Lib.hid (by rw [← hzc, scanZ_size, ← hcs, scanC_size])
  have H1 : Hid (cs.all (·.oneCell') = true) := Lib.hid (by rw [← hcs]; exact scanC_one s)
  have HCL := Lib.hid hcl
  have HCS := Lib.hid hcs
  clear hcs hcl hi0 hzc hbuild
  go_enter Tryd.func35, Tryd.ntmps35
  go_wp2_with fail
  refine (classes_calls _).mono ?_
  rintro e w1 ⟨rfl, hb1⟩
  have HB := Lib.hid hb1
  clear hb1
  rw [HCL.out]
  go_wp2_with (first | ((with_reducible refine wpList_build_ rfl 113 _ rfl (.agg cs) [(0, .string s), (1, .agg cl)] ?hv ?hb ?_); (case hb => exact HBU.out _); (case hv => rfl)) | ((with_reducible refine wpList_store_new rfl 113 _ _ rfl _ cs ?hx ?hy HIC.out HZC.out H1.out ?_); (case hx => rfl); (case hy => rfl)) | fail)
  have HS : Hid (ScanAt (w1.alloc (.cells cs 113)) w1.heap.size s) := Lib.hid (by rw [← HCS.out]; exact scan_at s w1)
  refine (gap_calls w1.heap.size s 0 (by omega) (by omega) _ HS.out).mono ?_
  rintro e w2 ⟨rfl, hb2⟩
  have HB2 := Lib.hid (below_step (below_alloc HB.out (.cells cs 113)) hb2)
  have HS2 := Lib.hid (HS.out.below hb2)
  clear hb2
  generalize w1.heap.size = sb at HS2
  obtain ⟨g0, hg0⟩ : ∃ g0, gapL s.data.toList 0 = g0 := ⟨_, rfl⟩
  rw [hg0]
  have hg0l : g0 ≤ s.size := by rw [← hg0, Lib.size_eq]; exact gapL_le _ _ (Nat.zero_le _)
  have HG0 := Lib.hid hg0
  clear hg0 HS HB
  go_wp2_with fail
  go_loopg [6, 7] s.size (fun g v6 v7 wx => ∃ (done : List Tok) (j : Nat) (A : Option Addr) (c : Nat), j ≤ s.size ∧ s.size ≤ j + g ∧ v6 = .slice A done.length c ∧ v7 = .int .i64 j ∧ done.length ≤ 5000 ∧ Hid (wx.ownsRow w.heap.size 104 4 (.slice A done.length c) done.length (encT done)) ∧ Hid (Below w.heap.size w wx) ∧ Hid (ScanAt wx sb s) ∧ Hid (withT done (lexE (g + 1) s.data.toList done.length j) = lexE (s.size + 1) s.data.toList 0 g0))
  case atStart => exact ⟨[], g0, none, 0, hg0l, by omega, rfl, rfl, by decide, Lib.hid (own_nil_ _ _ _ _), HB2, HS2, Lib.hid (by cases h : lexE (s.size + 1) s.data.toList ([] : List Tok).length g0 <;> rfl)⟩
  case round =>
    obtain ⟨done, j, A, c, hj1, hj2, rfl, rfl, hd, HO, HB, HSc, HR⟩ := hrel
    by_cases hlt : j < s.size
    · cases gk with
      | zero => omega
      | succ g =>
      have hz : (j : Int) < (s.size : Int) := by omega
      have hr := HR.out
      rw [lexE, if_pos (by rw [← Lib.size_eq]; exact hlt)] at hr
      cases hn : nextL s.data.toList j with
      | err e0 =>
        rw [hn] at hr
        have HE : Hid (lexE (s.size + 1) s.data.toList 0 (gapL s.data.toList 0) = .bad e0 j) := Lib.hid (by rw [HG0.out]; exact hr.symm)
        have he0 := nextL_err hn
        have h1 : (e0 == 0) = false := by simpa using he0
        have h2 : (e0 != 0) = true := by simpa using he0
        have HN := Lib.hid hn
        clear hn hr he0
        go_wp2_with fail
        refine (next_err sb s j hs hlt _ HSc.out e0 HN.out).mono ?_
        rintro e w3 ⟨rfl, hb3⟩
        have HB3 := Lib.hid (below_step HB.out hb3)
        clear hb3
        go_wp2_with fail
        go_ret3
        exact ⟨.slice none 0 0, by simp only [HE.out]; rfl, below_alloc HB3.out _, fun ts h => by rw [HE.out] at h; cases h⟩
      | tok t k =>
        rw [hn] at hr
        obtain ⟨hk1, hk2⟩ := nextL_tok (by rw [← Lib.size_eq]; exact hlt) hn
        rw [← Lib.size_eq] at hk2
        have HN := Lib.hid hn
        by_cases hfull : done.length = 5000
        · have hf : ((done.length : Int) == 5000) = true := by simp; omega
          dsimp only at hr
          rw [if_pos hfull] at hr
          have HE : Hid (lexE (s.size + 1) s.data.toList 0 (gapL s.data.toList 0) = .bad 2 j) := Lib.hid (by rw [HG0.out]; exact hr.symm)
          clear hn hr hfull
          go_wp2_with fail
          refine (next_tok sb s j hs hlt _ HSc.out t k HN.out).mono ?_
          rintro e w3 ⟨rfl, hb3⟩
          have HB3 := Lib.hid (below_step HB.out hb3)
          clear hb3
          go_wp2_with fail
          go_ret3
          exact ⟨.slice none 0 0, by simp only [HE.out]; rfl, below_alloc HB3.out _, fun ts h => by rw [HE.out] at h; cases h⟩
        · have hf : ((done.length : Int) == 5000) = false := by simp; omega
          dsimp only at hr
          rw [if_neg hfull] at hr
          obtain ⟨q, hq⟩ : ∃ q, gapL s.data.toList k = q := ⟨_, rfl⟩
          have hq1 := gapL_le s.data.toList k (by rw [← Lib.size_eq]; exact hk2)
          have hq2 := gapL_ge s.data.toList k (by rw [← Lib.size_eq]; exact hk2)
          rw [← Lib.size_eq] at hq1
          rw [hq] at hq1 hq2 hr
          have HQ := Lib.hid hq
          have HE : Hid (withT (done ++ [t]) (lexE (g + 1) s.data.toList (done ++ [t]).length q) = lexE (s.size + 1) s.data.toList 0 g0) := Lib.hid (by
            rw [← hr, List.length_append]
            show _ = withT done (match lexE (g + 1) s.data.toList (done.length + 1) q with
              | .bad e a => .bad e a
              | .good ts => .good (t :: ts))
            rw [show [t].length = 1 from rfl]
            cases lexE (g + 1) s.data.toList (done.length + 1) q with
            | bad e a => rfl
            | good ts => show LexR.good (done ++ [t] ++ ts) = LexR.good (done ++ t :: ts); rw [List.append_assoc]; rfl)
          clear hn hr hq
          obtain ⟨it, hi, hz0, hz1, hz2⟩ := info_parts infoT
          go_wp2_with fail
          refine (next_tok sb s j hs hlt _ HSc.out t k HN.out).mono ?_
          rintro e w3 ⟨rfl, hb3⟩
          have HB3 := Lib.hid (below_step HB.out hb3)
          have HO3 := Lib.hid (own_below_ HO.out hb3)
          have HS3 := Lib.hid (HSc.out.below hb3)
          clear hb3
          go_wp2_with (first | (at_builtin; refine wpList_append_own _ rfl _ _ 84 rfl w.heap.size 104 it (.agg #[.int .i64 0, .string ⟨#[]⟩, .int .i64 0, .int .i64 0]) 4 40 Tryd.underlying84 hi hz0 hz1 hz2 rfl (by decide) _ _ _ rfl ((HO3.out.alloc _).alloc _) ⟨w3.heap.size + 1, 0, none⟩ 1 1 (encT [t]) rfl rfl ?c1 ?c2 ?c3 ?c4 ?c5 ?_) | fail)
          case c1 => exact tok_news _ _ _ t (by simp)
          case c2 => intro u hu; rw [encT_one] at hu; simp at hu; rcases hu with rfl | rfl | rfl | rfl <;> rfl
          case c3 => unfold maxLen; omega
          case c4 => omega
          case c5 => have := HB3.out.size; simp; omega
          intro v' w4 hown hgrow _
          have HB4 : Hid (Below w.heap.size w w4) := Lib.hid (below_grown_own (below_alloc (below_alloc HB3.out _) _) ((HO3.out.alloc _).alloc _) hgrow)
          have HS4 : Hid (ScanAt w4 sb s) := Lib.hid (by
            have h2 := blk_alloc (blk_alloc HS3.out (.cells #[.int .i64 t.kind, .string (bs t.text), .int .i64 t.n, .int .i64 t.at_] 104)) (.cells #[.int .i64 t.kind, .string (bs t.text), .int .i64 t.n, .int .i64 t.at_] 104)
            exact (hgrow.block sb (blk_lt h2) (own_ne ((HO3.out.alloc _).alloc _) h2 (by decide))).trans h2)
          rw [← encT_append] at hown
          have hlen : done.length + 1 = (done ++ [t]).length := by simp
          rw [hlen] at hown
          obtain ⟨A', c', rfl⟩ := own_view hown
          have HO4 := Lib.hid hown
          clear hgrow hown hlen
          go_wp2_with fail
          refine (gap_calls sb s k (by omega) (by omega) _ HS4.out).mono ?_
          rintro e w5 ⟨rfl, hb5⟩
          rw [HQ.out]
          have HB5 := Lib.hid (below_step HB4.out hb5)
          have HO5 := Lib.hid (own_below_ HO4.out hb5)
          have HS5 := Lib.hid (HS4.out.below hb5)
          clear hb5
          go_wp2_with fail
          go_roundg g
          case measure => omega
          case rel => exact ⟨done ++ [t], q, A', c', hq1, by omega, by rw [List.length_append]; rfl, rfl, by rw [List.length_append]; show done.length + 1 ≤ 5000; omega, HO5, HB5, HS5, HE⟩
    · have hz : ¬ (j : Int) < (s.size : Int) := by omega
      have hr := HR.out
      rw [lexE, if_neg (by rw [← Lib.size_eq]; exact hlt)] at hr
      have HE : Hid (lexE (s.size + 1) s.data.toList 0 (gapL s.data.toList 0) = .good done) := Lib.hid (by rw [HG0.out, ← hr]; show LexR.good (done ++ []) = _; rw [List.append_nil])
      clear hr
      go_wp2_with fail
      go_ret3
      exact ⟨.slice A done.length c, by simp only [HE.out]; rfl, HB.out, fun ts h => by rw [HE.out] at h; injection h with h; subst h; exact HO.out⟩
/-- lexer.Lex: every text -/
theorem lex_calls (s : ByteArray) (w : World) :
    Calls Tryd.prog 35 #[.string s] w (LexPost w (lexL s.data.toList)) := by
  unfold lexL
  by_cases hs : 20000 < s.size
  · rw [if_pos (by rw [← Lib.size_eq]; exact hs)]
    refine (lex_long s hs w).mono ?_
    rintro e w' ⟨rfl, hb⟩
    exact ⟨.slice none 0 0, rfl, hb, fun ts h => by cases h⟩
  · rw [if_neg (by rw [← Lib.size_eq]; exact hs), ← Lib.size_eq]
    exact lex_short s (by omega) w
end Go.Proofs.YtamabdijeklgjaaDoor.Ext

/- What the unit templates import at this seat. -/
