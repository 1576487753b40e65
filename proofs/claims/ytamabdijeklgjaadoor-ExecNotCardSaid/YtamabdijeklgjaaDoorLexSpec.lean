/- What lexer.Lex answers, in plain Lean. -/
import Derived.Test.YtamabdijeklgjaaDoorWWords
namespace Go.Proofs.YtamabdijeklgjaaDoor.Ext
open Go Go.Proofs

/-! ### the classes of bytes -/
def setP (L : List Int) (s : List UInt8) (c : Int) : List Int := s.foldl (fun a b => a.set b.toNat c) L
def sLetters : List UInt8 := [97, 98, 99, 100, 101, 102, 103, 104, 105, 106, 107, 108, 109, 110, 111, 112, 113, 114, 115, 116, 117, 118, 119, 120, 121, 122, 65, 66, 67, 68, 69, 70, 71, 72, 73, 74, 75, 76, 77, 78, 79, 80, 81, 82, 83, 84, 85, 86, 87, 88, 89, 90]
def sDigits : List UInt8 := [48, 49, 50, 51, 52, 53, 54, 55, 56, 57]
def sSymbols : List UInt8 := [59, 44, 46, 58, 40, 41, 91, 93, 123, 125, 43, 45, 42, 47]
def clsL : List Int := setP (setP (setP (setP (setP (setP (setP (setP (setP (List.replicate 256 0) sLetters 3) sDigits 4) [95] 5) [32, 9, 10] 1) [35] 2) [34] 6) [33] 7) [60, 62, 61] 8) sSymbols 9
/-- the class of a byte -/
def clsN (b : Nat) : Int :=
  if (97 ≤ b ∧ b ≤ 122) ∨ (65 ≤ b ∧ b ≤ 90) then 3 else if 48 ≤ b ∧ b ≤ 57 then 4 else if b = 95 then 5 else if b = 32 ∨ b = 9 ∨ b = 10 then 1 else if b = 35 then 2 else if b = 34 then 6 else if b = 33 then 7 else if b = 60 ∨ b = 62 ∨ b = 61 then 8
  else if b = 59 ∨ b = 44 ∨ b = 46 ∨ b = 58 ∨ b = 40 ∨ b = 41 ∨ b = 91 ∨ b = 93 ∨ b = 123 ∨ b = 125 ∨ b = 43 ∨ b = 45 ∨ b = 42 ∨ b = 47 then 9 else 0
def cls (b : UInt8) : Int := clsN b.toNat
theorem setP_length (L : List Int) (s : List UInt8) (c : Int) : (setP L s c).length = L.length := by
  unfold setP
  induction s generalizing L with
  | nil => rfl
  | cons b t ih => rw [List.foldl_cons, ih, List.length_set]
theorem setP_take (L : List Int) (s : List UInt8) (c : Int) (i : Nat) (b : UInt8) (h : s[i]? = some b) : setP L (s.take (i + 1)) c = (setP L (s.take i) c).set b.toNat c := by
  unfold setP
  rw [List.take_add_one, h, List.foldl_append]
  rfl
theorem clsL_length : clsL.length = 256 := by decide +kernel
theorem clsL_at (b : UInt8) : clsL[b.toNat]? = some (cls b) := by
  have h : ∀ i ∈ List.range 256, clsL[i]? = some (clsN i) := by decide +kernel
  exact h b.toNat (by simp; exact UInt8.toNat_lt b)

/-! ### the scanner -/
/-- the class of the byte at i; 0 behind the end -/
def clsAt (l : List UInt8) (i : Nat) : Int := match l[i]? with
  | some b => cls b
  | none => 0
/-- the first place from i on whose class is none of cs -/
def spanE (cs : List Int) (l : List UInt8) (i : Nat) : Nat := i + ((l.drop i).takeWhile fun b => cs.contains (cls b)).length
theorem spanE_stop (cs : List Int) (l : List UInt8) (i : Nat) (h : l.length ≤ i) : spanE cs l i = i := by
  unfold spanE
  rw [List.drop_eq_nil_of_le h]
  rfl
theorem spanE_yes (cs : List Int) (l : List UInt8) (i : Nat) (b : UInt8) (hb : l[i]? = some b) (h : cs.contains (cls b) = true) : spanE cs l i = spanE cs l (i + 1) := by
  unfold spanE
  have hi : i < l.length := (List.getElem?_eq_some_iff.1 hb).1
  have hd : l.drop i = b :: l.drop (i + 1) := by
    rw [List.drop_eq_getElem_cons hi]
    congr 1
    exact (List.getElem?_eq_some_iff.1 hb).2
  rw [hd, List.takeWhile_cons, if_pos h, List.length_cons]
  omega
theorem spanE_no (cs : List Int) (l : List UInt8) (i : Nat) (b : UInt8) (hb : l[i]? = some b) (h : cs.contains (cls b) = false) : spanE cs l i = i := by
  unfold spanE
  have hi : i < l.length := (List.getElem?_eq_some_iff.1 hb).1
  have hd : l.drop i = b :: l.drop (i + 1) := by
    rw [List.drop_eq_getElem_cons hi]
    congr 1
    exact (List.getElem?_eq_some_iff.1 hb).2
  rw [hd, List.takeWhile_cons, if_neg (by rw [h]; simp)]
  rfl
theorem spanE_ge (cs : List Int) (l : List UInt8) (i : Nat) : i ≤ spanE cs l i := by unfold spanE; omega
theorem spanE_le (cs : List Int) (l : List UInt8) (i : Nat) (h : i ≤ l.length) : spanE cs l i ≤ l.length := by
  unfold spanE
  have h1 : ((l.drop i).takeWhile fun b => cs.contains (cls b)).length ≤ (l.drop i).length := (List.takeWhile_sublist _).length_le
  rw [List.length_drop] at h1
  omega
/-- where the gap that begins at i ends -/
def gapE : Nat → List UInt8 → Nat → Nat
  | 0, _, i => i
  | f + 1, l, i => if clsAt l (spanE [1] l i) = 2 then (match (l.drop (spanE [1] l i)).findIdx? (· == 10) with
      | none => l.length
      | some n => gapE f l (spanE [1] l i + n)) else spanE [1] l i

/-! ### tokens -/
structure Tok where
  kind : Int
  text : List UInt8
  n : Int
  at_ : Int
deriving DecidableEq
/-- what stands at i: an error, or a token and its end -/
inductive Nxt where
  | err (e : Int)
  | tok (t : Tok) (end_ : Nat)
deriving DecidableEq
def subL (l : List UInt8) (i j : Nat) : List UInt8 := (l.drop i).take (j - i)
def bs (l : List UInt8) : ByteArray := ⟨l.toArray⟩
theorem bs_list (l : List UInt8) : (bs l).data.toList = l := rfl
theorem bs_of (s : ByteArray) (l : List UInt8) (h : s.data.toList = l) : s = bs l := by
  subst h
  cases s
  rfl
/-- the number that digits spell -/
def decV (l : List UInt8) : Nat := l.foldl (fun n b => n * 10 + (b.toNat - 48)) 0
def nameN (l : List UInt8) (i : Nat) : Nxt := if 24 < spanE [3, 4, 5] l i - i then .err 2 else .tok ⟨1, subL l i (spanE [3, 4, 5] l i), 0, i⟩ (spanE [3, 4, 5] l i)
def numN (l : List UInt8) (i : Nat) : Nxt :=
  if 13 < spanE [4] l i - i ∨ clsAt l (spanE [4] l i) = 3 ∨ clsAt l (spanE [4] l i) = 5 then .err 4 else .tok ⟨2, subL l i (spanE [4] l i), decV (subL l i (spanE [4] l i)), i⟩ (spanE [4] l i)
def strN (l : List UInt8) (i : Nat) : Nxt := match (l.drop (i + 1)).findIdx? (fun b => b == 34 || b == 10) with
  | none => .err 6
  | some n => if (l.drop (i + 1))[n]? = some 10 then .err 6 else if 400 < n then .err 2 else .tok ⟨3, (l.drop (i + 1)).take n, 0, i⟩ (i + n + 2)
def symN (l : List UInt8) (i : Nat) : Nxt := .tok ⟨4, subL l i (i + 1), 0, i⟩ (i + 1)
def twoN (l : List UInt8) (i : Nat) : Nxt := .tok ⟨4, subL l i (i + 2), 0, i⟩ (i + 2)
/-- the token at i -/
def nextL (l : List UInt8) (i : Nat) : Nxt :=
  if clsAt l i = 3 then nameN l i else if clsAt l i = 4 then numN l i else if clsAt l i = 6 then strN l i
  else if clsAt l i = 7 then (if l[i + 1]? = some 61 then twoN l i else .err 3)
  else if clsAt l i = 8 then (if l[i + 1]? = some 61 then twoN l i else symN l i)
  else if clsAt l i = 9 then symN l i else .err 3
/-- where the gap that begins at i ends -/
def gapL (l : List UInt8) (i : Nat) : Nat := gapE (l.length - i + 1) l i
/-- what lexer.Lex answers: tokens, or an error and its offset -/
inductive LexR where
  | bad (e : Int) (at_ : Int)
  | good (ts : List Tok)
deriving DecidableEq
/-- the tokens from i on (i is no gap), behind the n tokens that stand already -/
def lexE : Nat → List UInt8 → Nat → Nat → LexR
  | 0, _, _, _ => .good []
  | f + 1, l, n, i => if i < l.length then (match nextL l i with
      | .err e => .bad e i
      | .tok t j => if n = 5000 then .bad 2 i else (match lexE f l (n + 1) (gapL l j) with
        | .bad e a => .bad e a
        | .good ts => .good (t :: ts))) else .good []
def lexL (l : List UInt8) : LexR := if 20000 < l.length then .bad 2 (-1) else lexE (l.length + 1) l 0 (gapL l 0)
end Go.Proofs.YtamabdijeklgjaaDoor.Ext
