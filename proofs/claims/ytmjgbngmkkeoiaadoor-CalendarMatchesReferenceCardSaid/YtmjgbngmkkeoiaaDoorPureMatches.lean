/- The program's calendar and the reference's give the same answers; the law's walk over both. -/
import Derived.Test.YtmjgbngmkkeoiaaDoorPureOnce
import Derived.Test.YtmjgbngmkkeoiaaDoorH2
namespace Go.Proofs.YtmjgbngmkkeoiaaDoor.Ext
open Go Go.Proofs Go.RowKit Go.Proofs.YtmjgbngmkkeoiaaDoorW.PrintWords Go.Proofs.YtmjgbngmkkeoiaaDoor.G Go.Proofs.YtmjgbngmkkeoiaaDoor.H
set_option linter.unusedVariables false

theorem ref_moment (a b : Int) : observatoryref09_Moment.f a b = calendar_Moment.f a b := by
  unfold observatoryref09_Moment.f
  by_cases h : 0 ≤ a ∧ a < 400 ∧ 0 ≤ b ∧ b < 96
  · rw [moment_ok h.1 h.2.1 h.2.2.1 h.2.2.2, if_neg (by omega), if_neg (by omega), if_neg (by omega), if_neg (by omega), wrap_in (n := 96 * a) (by omega) (by omega), wrap_in (by omega) (by omega), Int.mul_comm]
  · rw [moment_no h]
    by_cases h1 : a < 0
    · rw [if_pos h1]
    · rw [if_neg h1]
      by_cases h2 : a > 399
      · rw [if_pos h2]
      · rw [if_neg h2]
        by_cases h3 : b < 0
        · rw [if_pos h3]
        · rw [if_neg h3, if_pos (by omega)]
theorem ref_is (m : Int) : observatoryref09_Is.f m = some (decide (isM m)) := by
  unfold observatoryref09_Is.f
  by_cases h : isM m
  · rw [if_pos h.1, decide_eq_true h, decide_eq_true (by have := h.2; omega)]
  · rw [decide_eq_false h]
    split
    · rw [decide_eq_false (by unfold isM at h; omega)]
    · rfl
theorem ref_split (m : Int) : observatoryref09_Split.f m = calendar_Split.f m := by
  unfold observatoryref09_Split.f
  rw [ref_is]
  by_cases h : isM m
  · have h0 := h.1
    have h1 := h.2
    rw [split_ok h, decide_eq_true h]
    simp only [Option.bind_some, if_true]
    rw [Int.tdiv_eq_ediv_of_nonneg h0, Int.tmod_eq_emod_of_nonneg h0, wrap_in (by omega) (by omega)]
  · rw [split_no h, decide_eq_false h]; rfl
theorem ref_sid (m : Int) : observatoryref09_Sidereal.f m = calendar_Sidereal.f m := by
  unfold observatoryref09_Sidereal.f
  rw [ref_is]
  by_cases h : isM m
  · have h0 := h.1
    have h1 := h.2
    rw [sid_ok h, decide_eq_true h]
    simp only [Option.bind_some, if_true]
    rw [Int.tdiv_eq_ediv_of_nonneg h0, Int.tmod_eq_emod_of_nonneg h0, wrap_in (n := m / 96) (by omega) (by omega), wrap_in (n := 60 * (m % 96)) (by omega) (by omega), wrap_in (n := 16 * (m / 96)) (by omega) (by omega), wrap_in (by omega) (by omega), Int.tmod_eq_emod_of_nonneg (by omega)]
  · rw [sid_no h, decide_eq_false h]; rfl

/-! ### strings -/
def dgt (d : Nat) : ByteArray := ⟨#[UInt8.ofNat (48 + d)]⟩
theorem dgt_at : ∀ d, d < 10 → (⟨#[48, 49, 50, 51, 52, 53, 54, 55, 56, 57]⟩ : ByteArray).extract d (d + 1) = dgt d := by decide +kernel
theorem dig_step (k : Nat) (n : Int) (s : ByteArray) (i : Int) (h0 : 0 ≤ n) (h1 : n < 1000000) (hs : s.size ≤ 100) (hi0 : 0 ≤ i) (hi : i = 0 ∨ (0 < n ∧ i < 6)) : observatoryref09_digits.l0 (k + 1) n s i = observatoryref09_digits.l0 k (n / 10) (dgt (n % 10).toNat ++ s) (i + 1) := by
  have e1 : Int.tmod n 10 = n % 10 := Int.tmod_eq_emod_of_nonneg h0
  have e2 : Int.tdiv n 10 = n / 10 := Int.tdiv_eq_ediv_of_nonneg h0
  have e3 : wrap64 (n % 10 + 1) = n % 10 + 1 := wrap_in (by omega) (by omega)
  have e4 : wrap64 (n / 10) = n / 10 := wrap_in (by omega) (by omega)
  have e5 : wrap64 (i + 1) = i + 1 := wrap_in (by omega) (by omega)
  have e6 : (n % 10 + 1).toNat = (n % 10).toNat + 1 := by omega
  have e7 := dgt_at (n % 10).toNat (by omega)
  have e8 : (dgt (n % 10).toNat).size = 1 := by unfold dgt; rfl
  simp only [observatoryref09_digits.l0, e1, e2, e3, e4, e5, e6, e7, e8]
  rcases hi with hi | ⟨hn, hi⟩
  · rw [if_pos hi, if_pos (by omega), if_pos (by omega), if_pos (by omega), if_pos (by omega)]
  · by_cases hz : i = 0
    · rw [if_pos hz, if_pos (by omega), if_pos (by omega), if_pos (by omega), if_pos (by omega)]
    · rw [if_neg hz, if_pos hn, if_pos hi, if_pos (by omega), if_pos (by omega), if_pos (by omega), if_pos (by omega)]
theorem dig_end (k : Nat) (s : ByteArray) (i : Int) (hi : i ≠ 0) : observatoryref09_digits.l0 (k + 1) 0 s i = some s := by
  simp only [observatoryref09_digits.l0]
  rw [if_neg hi, if_neg (by omega)]
def decS (n : Int) : ByteArray := ⟨(Lib.decDigits n.toNat).toArray⟩
theorem decS_small {n : Int} (h0 : 0 ≤ n) (h : n < 10) : decS n = dgt (n % 10).toNat := by
  unfold decS dgt
  rw [Lib.decDigits, dif_pos (by omega), show (n % 10).toNat = n.toNat by omega]
theorem decS_big {n : Int} (h : 10 ≤ n) : decS n = decS (n / 10) ++ dgt (n % 10).toNat := by
  refine ba_ext ?_
  unfold decS dgt
  rw [ByteArray.data_append, Lib.decDigits, dif_neg (by omega), show (n % 10).toNat = n.toNat % 10 by omega, show (n / 10).toNat = n.toNat / 10 by omega]
  simp
theorem dig_any (d : Nat) : ∀ (n : Int) (k : Nat) (s : ByteArray) (i : Int), 0 ≤ n → n < 10 ^ d → n < 1000000 → 1 ≤ d → 0 ≤ i → (i = 0 ∨ 0 < n) → i + d ≤ 6 → s.size + d ≤ 100 → d < k → observatoryref09_digits.l0 k n s i = some (decS n ++ s) := by
  induction d with
  | zero => intros; omega
  | succ d ih =>
    intro n k s i h0 h1 hb hd hi0 hi hi6 hs hk
    obtain ⟨k, rfl⟩ : ∃ m, k = m + 1 := ⟨k - 1, by omega⟩
    rw [dig_step k n s i h0 hb (by omega) hi0 (by omega)]
    by_cases hn : n < 10
    · obtain ⟨k, rfl⟩ : ∃ m, k = m + 1 := ⟨k - 1, by omega⟩
      rw [show n / 10 = 0 by omega, dig_end k _ _ (by omega), decS_small h0 hn]
    · have hd1 : 1 ≤ d := by
        rcases Nat.eq_zero_or_pos d with h | h
        · subst h; simp at h1; omega
        · exact h
      have hp : (10 : Int) ^ (d + 1) = 10 ^ d * 10 := Int.pow_succ 10 d
      rw [ih (n / 10) k _ (i + 1) (by omega) (by rw [hp] at h1; omega) (by omega) hd1 (by omega) (by omega) (by omega) (by rw [ByteArray.size_append, show (dgt (n % 10).toNat).size = 1 from rfl]; omega) (by omega), decS_big (n := n) (by omega), ByteArray.append_assoc]
theorem digits_at {n : Int} (h0 : 0 ≤ n) (h1 : n < 400) : observatoryref09_digits.f 8 n = some (itoaS n) := by
  unfold observatoryref09_digits.f
  rw [dig_any 3 n 8 ⟨#[]⟩ 0 h0 (by omega) (by omega) (by omega) (by omega) (by omega) (by omega) (by decide) (by omega)]
  congr 1
  refine ba_ext ?_
  rw [ByteArray.data_append]
  unfold decS itoaS Lib.itoa
  rw [if_neg (by omega)]
  simp
theorem ref_text (m : Int) : observatoryref09_Text.f 8 m = calendar_Text.f m := by
  unfold observatoryref09_Text.f
  rw [ref_is]
  by_cases h : isM m
  · have h0 := h.1
    have h1 := h.2
    have s1 := itoaS_size (n := m / 96) (by omega) (by omega)
    have s2 := itoaS_size (n := m % 96) (by omega) (by omega)
    rw [text_ok h, decide_eq_true h]
    simp only [Option.bind_some, if_true]
    rw [Int.tdiv_eq_ediv_of_nonneg h0, Int.tmod_eq_emod_of_nonneg h0, wrap_in (n := m / 96) (by omega) (by omega), digits_at (by omega) (by omega), digits_at (by omega) (by omega)]
    simp only [Option.bind_some]
    rw [if_pos (by omega), if_pos (by rw [ByteArray.size_append, show (⟨#[46]⟩ : ByteArray).size = 1 from rfl]; omega)]
    rfl
  · rw [text_no h, decide_eq_false h]; rfl
theorem text_more {k : Nat} (hk : 8 ≤ k) (m : Int) : observatoryref09_Text.f k m = calendar_Text.f m := by
  obtain ⟨r, hr⟩ : ∃ r, calendar_Text.f m = some r := by
    by_cases h : isM m
    · exact ⟨_, text_ok h⟩
    · exact ⟨_, text_no h⟩
  have h8 := ref_text m
  rw [hr] at h8 ⊢
  obtain ⟨d, rfl⟩ : ∃ d, k = 8 + d := ⟨k - 8, by omega⟩
  induction d with
  | zero => exact h8
  | succ d ih => exact observatoryref09_Text.mono m (8 + d) r (ih (by omega))

/-! ### the search -/
theorem ref_l0 (a : Int) (ha : 0 ≤ a) (ha1 : a < 5760) : ∀ (d k : Nat) (x : Int), 0 ≤ x → (38400 - x).toNat = d → x ≤ 38400 → d < k → observatoryref09_Next.l0 k a x = some (nextL d x a) := by
  intro d
  induction d with
  | zero =>
    intro k x h0 hd hx hk
    obtain ⟨k, rfl⟩ : ∃ m, k = m + 1 := ⟨k - 1, by omega⟩
    simp only [observatoryref09_Next.l0]
    rw [if_neg (by omega)]
    rfl
  | succ d ih =>
    intro k x h0 hd hx hk
    obtain ⟨k, rfl⟩ : ∃ m, k = m + 1 := ⟨k - 1, by omega⟩
    simp only [observatoryref09_Next.l0]
    rw [if_pos (by omega), ref_sid, sid_ok ⟨h0, by omega⟩]
    simp only [Option.bind_some]
    rw [wrap_in (n := (60 * (x % 96) + 16 * (x / 96)) % 5760 - a) (by omega) (by omega), wrap_in (n := (60 * (x % 96) + 16 * (x / 96)) % 5760 - a + 5760) (by omega) (by omega), Int.tmod_eq_emod_of_nonneg (by omega), show (60 * (x % 96) + 16 * (x / 96)) % 5760 - a + 5760 = (60 * (x % 96) + 16 * (x / 96)) % 5760 + 5760 - a by omega]
    by_cases hr : ((60 * (x % 96) + 16 * (x / 96)) % 5760 + 5760 - a) % 5760 < 60
    · rw [if_pos hr, nextL_hit (show reachB x a = true by unfold reachB; exact decide_eq_true hr)]
    · rw [if_neg hr, nextL_step (show reachB x a = false by unfold reachB; exact decide_eq_false hr), wrap_in (n := x + 1) (by omega) (by omega)]
      exact ih k (x + 1) (by omega) (by omega) (by omega) (by omega)
theorem ref_next (m a : Int) (k : Nat) (hk : 38500 ≤ k) : observatoryref09_Next.f k m a = calendar_Next.f m a := by
  obtain ⟨k, rfl⟩ : ∃ m, k = m + 1 := ⟨k - 1, by omega⟩
  unfold observatoryref09_Next.f calendar_Next.f
  rw [ref_is]
  simp only [Option.bind_some, observatoryref09_Next.j0, decide_eq_true_eq]
  by_cases h : isM m
  · have h0 := h.1
    have h1 := h.2
    rw [if_pos h]
    by_cases ha : a < 0
    · rw [if_pos ha, if_pos trivial, if_neg (by omega)]
    · rw [if_neg ha]
      by_cases hb : a > 5759
      · rw [if_pos (by omega), if_neg (by omega)]
      · rw [if_neg (by omega), if_pos ⟨h0, h1, by omega, by omega⟩]
        exact ref_l0 a (by omega) (by omega) _ k m h0 rfl (by omega) (by omega)
  · rw [if_neg h, if_pos trivial, if_neg (fun hh => h ⟨hh.1, hh.2.1⟩)]

/-! ### reading a string -/
def fld : List UInt8 → Int → Int → Int → Option (Int × Int × Int)
  | [], a, b, d => some (a, b, d)
  | c :: r, a, b, d => if (c.toNat : Int) = 46 then fld r a b (wrap64 (d + 1)) else if (c.toNat : Int) < 48 ∨ (c.toNat : Int) > 57 then none
    else if d = 0 then fld r (wrap64 (wrap64 (10 * a) + ((c.toNat : Int) - 48) % 256)) b d else fld r a (wrap64 (wrap64 (10 * b) + ((c.toNat : Int) - 48) % 256)) d
theorem fld_append (x y : List UInt8) : ∀ a b d, fld (x ++ y) a b d = (fld x a b d).bind fun st => fld y st.1 st.2.1 st.2.2 := by
  induction x with
  | nil => intro a b d; rfl
  | cons c x ih =>
    intro a b d
    simp only [List.cons_append, fld]
    split
    · exact ih _ _ _
    · split
      · rfl
      · split
        · exact ih _ _ _
        · exact ih _ _ _
theorem fld_one (x : List UInt8) (h : 46 ∉ x) (n : Int) : ∀ b, fld x n b 1 = (fld x 0 b 1).map fun st => (n, st.2) := by
  induction x with
  | nil => intro b; rfl
  | cons c x ih =>
    intro b
    have hc : ¬ ((c.toNat : Int) = 46) := fun e => h (by
      have : c = 46 := UInt8.toNat_inj.1 (by show c.toNat = 46; omega)
      rw [this]; exact List.mem_cons_self)
    simp only [fld]
    rw [if_neg hc, if_neg hc]
    split
    · rfl
    · rw [if_neg (by decide), if_neg (by decide)]
      exact ih (fun hm => h (List.mem_cons_of_mem _ hm)) _
def okF (n : Nat) : Bool := (fld (Lib.itoa n) 0 0 0 == some ((n : Int), 0, 0)) && (fld (Lib.itoa n) 0 0 1 == some (0, (n : Int), 1))
theorem f400 : (List.range 400).all okF = true := by decide +kernel
theorem fld_at {n : Int} (h0 : 0 ≤ n) (h1 : n < 400) : fld (Lib.itoa n) 0 0 0 = some (n, 0, 0) ∧ fld (Lib.itoa n) 0 0 1 = some (0, n, 1) := by
  have h := List.all_eq_true.1 f400 n.toNat (by simp; omega)
  have e : ((n.toNat : Nat) : Int) = n := by omega
  unfold okF at h
  rw [e] at h
  simp only [Bool.and_eq_true, beq_iff_eq] at h
  exact h
theorem fld_T {m : Int} (h : isM m) : fld (T m).data.toList 0 0 0 = some (m / 96, m % 96, 1) := by
  have h0 := h.1
  have h1 := h.2
  have hs := ok_at (n := m % 96) (by omega) (by omega)
  rw [T_data, fld_append, (fld_at (n := m / 96) (by omega) (by omega)).1]
  simp only [Option.bind_some, fld]
  rw [if_pos (by decide), wrap_in (by omega) (by omega), show (0 : Int) + 1 = 1 from rfl, fld_one _ hs.2.1, (fld_at (n := m % 96) (by omega) (by omega)).2]
  rfl
/-- what the reference does behind the loop -/
def fin (s : ByteArray) (a b : Int) : Int × Int := match calendar_Moment.f a b with
  | some (m, 0) => (match calendar_Text.f m with | some (t, _) => if t.toList = s.toList then (m, 0) else (0, 5) | none => (0, 5))
  | _ => (0, 5)
theorem fin_eq (s : ByteArray) (a b : Int) (k : Nat) (hk : 8 ≤ k) : ((calendar_Moment.f a b).bind fun bt => if bt.2 = 0 then (observatoryref09_Text.f k bt.1).bind fun bu => if bu.1.toList = s.toList then some (bt.1, (0 : Int)) else some (0, 5) else some (0, 5)) = some (fin s a b) := by
  unfold fin
  by_cases h : 0 ≤ a ∧ a < 400 ∧ 0 ≤ b ∧ b < 96
  · rw [moment_ok h.1 h.2.1 h.2.2.1 h.2.2.2]
    simp only [Option.bind_some, if_true]
    rw [text_more hk, text_ok ⟨by omega, by omega⟩]
    simp only [Option.bind_some]
    split <;> rfl
  · rw [moment_no h]; rfl
theorem bt_get {s : ByteArray} {x : Nat} (h : x < s.size) : ∃ c, s.data.toList[x]? = some c ∧ bt s (x : Int) = (c.toNat : Int) := by
  refine ⟨s[x], ?_, ?_⟩
  · rw [Array.getElem?_toList, Array.getElem?_eq_getElem (by simpa using h)]; rfl
  · unfold bt; rw [dif_pos (by simpa using h)]; rfl
theorem ref_parse_l0 (s : ByteArray) : ∀ (d k x : Nat) (a b e : Int), min 8 s.size - x = d → x ≤ min 8 s.size → 3 * d + 20 ≤ k →
    observatoryref09_Parse.l0 k s a b e x = some (match fld ((s.data.toList.take 8).drop x) a b e with | some st => fin s st.1 st.2.1 | none => (0, 5)) := by
  have hl : s.data.toList.length = s.size := Array.length_toList
  intro d
  induction d with
  | zero =>
    intro k x a b e hd hx hk
    obtain ⟨k, rfl⟩ : ∃ m, k = m + 2 := ⟨k - 2, by omega⟩
    have hx2 : x = min 8 s.size := by omega
    have hdrop : (s.data.toList.take 8).drop x = [] := List.drop_eq_nil_of_le (by rw [List.length_take, hl]; omega)
    rw [hdrop]
    simp only [observatoryref09_Parse.l0, fld]
    have stop : observatoryref09_Parse.j1 (k + 1) s a b e x false = some (fin s a b) := by
      simp only [observatoryref09_Parse.j1, Bool.false_eq_true, if_false]
      rw [ref_moment]
      exact fin_eq s a b k (by omega)
    by_cases h1 : (x : Int) < (s.size : Int)
    · rw [if_pos h1, decide_eq_false (by omega)]; exact stop
    · rw [if_neg h1]; exact stop
  | succ d ih =>
    intro k x a b e hd hx hk
    obtain ⟨k, rfl⟩ : ∃ m, k = m + 3 := ⟨k - 3, by omega⟩
    have hlt : x < s.size := by omega
    have h8 : x < 8 := by omega
    obtain ⟨c, hc, hb⟩ := bt_get hlt
    have hdrop : (s.data.toList.take 8).drop x = c :: (s.data.toList.take 8).drop (x + 1) := by
      have hg : (s.data.toList.take 8)[x]? = some c := by rw [List.getElem?_take, if_pos h8]; exact hc
      obtain ⟨hh, hg2⟩ := List.getElem?_eq_some_iff.1 hg
      rw [List.drop_eq_getElem_cons hh, hg2]
    rw [hdrop]
    have hw : wrap64 ((x : Int) + 1) = ((x + 1 : Nat) : Int) := by rw [wrap_in (by omega) (by omega)]; omega
    simp only [observatoryref09_Parse.l0]
    rw [if_pos (by omega), decide_eq_true (by omega)]
    simp only [observatoryref09_Parse.j1, if_true]
    rw [if_pos (by omega), if_pos (by omega), hb, hw]
    simp only [fld]
    by_cases h46 : (c.toNat : Int) = 46
    · rw [if_pos h46, if_pos h46]
      exact ih (k + 1) (x + 1) _ _ _ (by omega) (by omega) (by omega)
    · rw [if_neg h46, if_neg h46]
      simp only [observatoryref09_Parse.j2]
      by_cases h48 : (c.toNat : Int) < 48
      · rw [if_pos h48, if_pos trivial, if_pos (Or.inl h48)]
      · rw [if_neg h48]
        by_cases h57 : (c.toNat : Int) > 57
        · rw [if_pos (decide_eq_true h57), if_pos (Or.inr h57)]
        · rw [if_neg (by rw [decide_eq_false h57]; decide), if_neg (show ¬ ((c.toNat : Int) < 48 ∨ (c.toNat : Int) > 57) by omega)]
          by_cases he : e = 0
          · rw [if_pos he, if_pos he, if_pos (by omega), if_pos (by omega), hb, hw]
            exact ih k (x + 1) _ _ _ (by omega) (by omega) (by omega)
          · rw [if_neg he, if_neg he, if_pos (by omega), if_pos (by omega), hb, hw]
            exact ih k (x + 1) _ _ _ (by omega) (by omega) (by omega)
theorem fin_no {s : ByteArray} (h : ∀ m, isM m → s ≠ T m) (a b : Int) : fin s a b = (0, 5) := by
  unfold fin
  by_cases hv : 0 ≤ a ∧ a < 400 ∧ 0 ≤ b ∧ b < 96
  · rw [moment_ok hv.1 hv.2.1 hv.2.2.1 hv.2.2.2]
    have hm : isM (a * 96 + b) := ⟨by omega, by omega⟩
    simp only
    rw [text_ok hm]
    simp only
    rw [if_neg (fun e => h _ hm (toList_inj' e).symm)]
  · rw [moment_no hv]; rfl
theorem ref_parse (s : ByteArray) (hs : s.size < 4294967281) : observatoryref09_Parse.f 60 s = calendar_Parse.f s := by
  unfold observatoryref09_Parse.f
  have := ref_parse_l0 s (min 8 s.size) 60 0 0 0 0 (by omega) (by omega) (by omega)
  rw [show ((0 : Nat) : Int) = 0 from rfl] at this
  rw [this, List.drop_zero]
  rcases parse_any s hs with ⟨m, hm, rfl, hp⟩ | ⟨hn, hp⟩
  · have ht : (T m).data.toList.take 8 = (T m).data.toList := List.take_of_length_le (by rw [Array.length_toList]; exact Nat.le_trans (T_size hm) (by decide))
    have h0 := hm.1
    have h1 := hm.2
    rw [hp, ht, fld_T hm]
    simp only [fin]
    rw [moment_ok (by omega) (by omega) (by omega) (by omega), show m / 96 * 96 + m % 96 = m by omega]
    simp only
    rw [text_ok hm]
    simp
  · rw [hp]
    cases fld (List.take 8 s.data.toList) 0 0 0 with
    | none => rfl
    | some st => simp only; rw [fin_no hn]

/-! ### the law -/
set_option maxRecDepth 100000 in
set_option maxHeartbeats 2000000 in
theorem matches_walk (a0 a1 a2 a3 : Int) (a4 : ByteArray) (w : World) (w0 : (Lit.int .i64 a0).wf = true) (w1 : (Lit.int .i64 a1).wf = true) (w2 : (Lit.int .i64 a2).wf = true) (w3 : (Lit.int .i64 a3).wf = true) (w4 : a4.size ≤ 140737488351232) (hT : Tabs w) :
    Calls Tryd.prog 3 #[.int .i64 a0, .int .i64 a1, .int .i64 a2, .int .i64 a3, .string a4] w fun e w' => e = .returned (.bool true) ∧ Below w.heap.size w w' := by
  have HT := Lib.hid hT
  clear hT w0 w1 w2 w3 w4
  by_cases hl : a4.size ≤ 20
  · obtain ⟨m1, m2, hm⟩ : ∃ m1 m2, calendar_Moment.f a0 a1 = some (m1, m2) := by
      by_cases h : 0 ≤ a0 ∧ a0 < 400 ∧ 0 ≤ a1 ∧ a1 < 96
      · exact ⟨_, _, moment_ok h.1 h.2.1 h.2.2.1 h.2.2.2⟩
      · exact ⟨_, _, moment_no h⟩
    obtain ⟨s1, s2, s3, hs⟩ : ∃ s1 s2 s3, calendar_Split.f a2 = some (s1, s2, s3) := by
      by_cases h : isM a2
      · exact ⟨_, _, _, split_ok h⟩
      · exact ⟨_, _, _, split_no h⟩
    obtain ⟨d1, d2, hd⟩ : ∃ d1 d2, calendar_Sidereal.f a2 = some (d1, d2) := by
      by_cases h : isM a2
      · exact ⟨_, _, sid_ok h⟩
      · exact ⟨_, _, sid_no h⟩
    obtain ⟨t1, t2, ht⟩ : ∃ t1 t2, calendar_Text.f a2 = some (t1, t2) := by
      by_cases h : isM a2
      · exact ⟨_, _, text_ok h⟩
      · exact ⟨_, _, text_no h⟩
    obtain ⟨p1, p2, hp⟩ : ∃ p1 p2, calendar_Parse.f a4 = some (p1, p2) := by
      rcases parse_any a4 (by omega) with ⟨m, _, _, h⟩ | ⟨_, h⟩
      · exact ⟨_, _, h⟩
      · exact ⟨_, _, h⟩
    obtain ⟨n1, n2, hn⟩ : ∃ n1 n2, calendar_Next.f a2 a3 = some (n1, n2) := by
      unfold calendar_Next.f
      split
      · exact ⟨_, _, rfl⟩
      · exact ⟨_, _, rfl⟩
    obtain ⟨K, hK⟩ : ∃ K, 38500 ≤ K := ⟨38500, Nat.le_refl _⟩
    have M1 := Lib.hid hm
    have M2 := Lib.hid ((ref_moment a0 a1).trans hm)
    have S1 := Lib.hid hs
    have S2 := Lib.hid ((ref_split a2).trans hs)
    have D1 := Lib.hid hd
    have D2 := Lib.hid ((ref_sid a2).trans hd)
    have T1 := Lib.hid ht
    have T2 := Lib.hid ((ref_text a2).trans ht)
    have P1 := Lib.hid hp
    have P2 := Lib.hid ((ref_parse a4 (by omega)).trans hp)
    have N1 := Lib.hid hn
    have N2 := Lib.hid ((ref_next a2 a3 K hK).trans hn)
    have HL : decide (20 < (a4.size : Int)) = false := decide_eq_false (by omega)
    have HL2 : decide (20 < a4.size) = false := decide_eq_false (by omega)
    clear hm hs hd ht hp hn hl hK
    go_enter Tryd.func3, Tryd.ntmps3
    go_wp2_with fail
    refine (head.calls true _ HT.out rfl).mono ?_
    rintro e w1 ⟨rfl, hb1⟩
    have HB1 : Hid (Below w.heap.size w w1) := hb1
    clear hb1
    go_wp2_with fail
    refine (calendar_Moment.calls a0 a1 m1 m2 _ M1.out).mono ?_
    rintro e w' ⟨rfl, ⟨k1, rfl⟩⟩
    go_wp2_with fail
    refine (observatoryref09_Moment.calls a0 a1 m1 m2 _ M2.out).mono ?_
    rintro e w' ⟨rfl, ⟨k2, rfl⟩⟩
    go_wp2_with fail
    refine (calendar_Split.calls a2 s1 s2 s3 _ S1.out).mono ?_
    rintro e w' ⟨rfl, ⟨k3, rfl⟩⟩
    go_wp2_with fail
    refine (observatoryref09_Split.calls a2 s1 s2 s3 _ S2.out).mono ?_
    rintro e w' ⟨rfl, ⟨k4, rfl⟩⟩
    go_wp2_with fail
    refine (calendar_Sidereal.calls a2 d1 d2 _ D1.out).mono ?_
    rintro e w' ⟨rfl, ⟨k5, rfl⟩⟩
    go_wp2_with fail
    refine (observatoryref09_Sidereal.calls a2 d1 d2 _ D2.out).mono ?_
    rintro e w' ⟨rfl, ⟨k6, rfl⟩⟩
    go_wp2_with fail
    refine (calendar_Text.calls a2 t1 t2 _ ((HT.out.below HB1.out).drewN _) T1.out).mono ?_
    rintro e w2 ⟨rfl, hb2⟩
    have HB2 : Hid (Below w.heap.size w w2) := below_step (bdr HB1.out _) hb2
    clear hb2 HB1
    go_wp2_with fail
    refine (observatoryref09_Text.calls 8 a2 t1 t2 _ T2.out).mono ?_
    rintro e w' ⟨rfl, ⟨k7, rfl⟩⟩
    go_wp2_with fail
    refine (calendar_Parse.calls a4 p1 p2 _ ((HT.out.below HB2.out).drewN _) P1.out).mono ?_
    rintro e w3 ⟨rfl, hb3⟩
    have HB3 : Hid (Below w.heap.size w w3) := below_step (bdr HB2.out _) hb3
    clear hb3 HB2
    go_wp2_with fail
    refine (observatoryref09_Parse.calls 60 a4 p1 p2 _ P2.out).mono ?_
    rintro e w' ⟨rfl, ⟨k8, rfl⟩⟩
    go_wp2_with fail
    refine (calendar_Next.calls a2 a3 n1 n2 _ N1.out).mono ?_
    rintro e w4 ⟨rfl, hb4⟩
    have HB4 : Hid (Below w.heap.size w w4) := below_step (bdr HB3.out _) hb4
    clear hb4 HB3
    go_wp2_with fail
    refine (observatoryref09_Next.calls K a2 a3 n1 n2 _ N2.out).mono ?_
    rintro e w' ⟨rfl, ⟨k9, rfl⟩⟩
    go_wp2_with fail
    go_ret
    exact ⟨rfl, bdr HB4.out _⟩
  · have HL : decide (20 < (a4.size : Int)) = true := decide_eq_true (by omega)
    have HL2 : decide (20 < a4.size) = true := decide_eq_true (by omega)
    clear hl
    go_enter Tryd.func3, Tryd.ntmps3
    go_wp2_with fail
    refine (head.calls true _ HT.out rfl).mono ?_
    rintro e w1 ⟨rfl, hb1⟩
    have HB1 : Hid (Below w.heap.size w w1) := hb1
    clear hb1
    go_wp2_with fail
    go_ret
    exact ⟨rfl, HB1.out⟩
end Go.Proofs.YtmjgbngmkkeoiaaDoor.Ext
