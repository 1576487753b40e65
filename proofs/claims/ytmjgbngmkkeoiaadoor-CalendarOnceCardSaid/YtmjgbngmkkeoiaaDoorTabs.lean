/- The library's answers that the statements need: strconv.Itoa, strconv.Atoi and strings.Cut, over what the laid tables hold at the call's begin. -/
import Derived.Test.YtmjgbngmkkeoiaaDoorShelf
import Derived.Test.YtmjgbngmkkeoiaaDoorWWords
import Derived.Lib.SmallJoins
import Derived.Lib.AppendIntMem
import Derived.Shelf.Strconv.ErrVarAll
import Derived.Shelf.Strconv.Itoa3
import Derived.Shelf.Strings.Cut
namespace Go.Proofs.YtmjgbngmkkeoiaaDoor.Ext
open Go Go.Proofs Go.RowKit Go.Proofs.YtmjgbngmkkeoiaaDoorW.PrintWords

/-- What the laid condition gives at the call's begin. -/
structure Base (w : World) : Prop where
  pow10 : Lib.TabIs Tryd.prog w "internal/strconv.uint64pow10" .u64 Lib.pow10Tab
  esyn : ∃ tp p, w.cell? ⟨0, 0, none⟩ = some (.iface tp p)
  erng : ∃ tp p, w.cell? ⟨1, 0, none⟩ = some (.iface tp p)
  mlen : ∃ m, w.cell? ⟨2, 0, none⟩ = some (.int .i64 m)

/-- What holds from then on: nothing that was there has changed. -/
def Tabs (w : World) : Prop := ∃ w0, Base w0 ∧ Below w0.heap.size w0 w

theorem Tabs.of_base {w : World} (h : Base w) : Tabs w := ⟨w, h, Below.refl _ _⟩
theorem Tabs.below {w w' : World} (h : Tabs w) (hb : Below w.heap.size w w') : Tabs w' := by
  obtain ⟨w0, h0, hb0⟩ := h
  exact ⟨w0, h0, hb0.trans (hb.mono hb0.size)⟩
theorem Tabs.drewN {w : World} (h : Tabs w) (n : Nat) : Tabs (w.drewN n) := h.below ⟨rfl, rfl, rfl, Nat.le_refl _, fun _ _ => rfl⟩
theorem Tabs.drew {w : World} (h : Tabs w) : Tabs w.drew := h.below (Below.refl _ _).drew
theorem Tabs.alloc {w : World} (h : Tabs w) (o : Obj) : Tabs (w.alloc o) := h.below ((Below.refl _ _).alloc (Nat.le_refl _) o)

theorem lt_of_cell {w : World} {b i : Nat} {v : Value} (h : w.cell? ⟨b, i, none⟩ = some v) : b < w.heap.size := by
  rcases Nat.lt_or_ge b w.heap.size with h' | h'
  · exact h'
  · simp [World.cell?, Array.getElem?_eq_none h'] at h
theorem cell_on {w0 w : World} (hb : Below w0.heap.size w0 w) {b : Nat} {v : Value} (h : w0.cell? ⟨b, 0, none⟩ = some v) : w.cell? ⟨b, 0, none⟩ = some v :=
  (hb.cell (p := ⟨b, 0, none⟩) (lt_of_cell h)).trans h

theorem Tabs.pow10 {w : World} (h : Tabs w) : Lib.TabIs Tryd.prog w "internal/strconv.uint64pow10" .u64 Lib.pow10Tab := by
  obtain ⟨w0, h0, hb⟩ := h
  exact (Lib.tabBelow_of_tabIs h0.pow10) w hb
theorem Tabs.esyn {w : World} (h : Tabs w) : ∃ tp p, w.cell? ⟨0, 0, none⟩ = some (.iface tp p) := by
  obtain ⟨w0, h0, hb⟩ := h
  obtain ⟨tp, p, hc⟩ := h0.esyn
  exact ⟨tp, p, cell_on hb hc⟩
theorem Tabs.erng {w : World} (h : Tabs w) : ∃ tp p, w.cell? ⟨1, 0, none⟩ = some (.iface tp p) := by
  obtain ⟨w0, h0, hb⟩ := h
  obtain ⟨tp, p, hc⟩ := h0.erng
  exact ⟨tp, p, cell_on hb hc⟩
theorem Tabs.mlen {w : World} (h : Tabs w) : ∃ m, w.cell? ⟨2, 0, none⟩ = some (.int .i64 m) := by
  obtain ⟨w0, h0, hb⟩ := h
  obtain ⟨m, hc⟩ := h0.mlen
  exact ⟨m, cell_on hb hc⟩

theorem bdr {B : Nat} {w w' : World} (h : Below B w w') (n : Nat) : Below B w (w'.drewN n) := ⟨h.os, h.tape, h.output, h.size, h.block⟩
theorem size_lit (l : List UInt8) : (⟨l.toArray⟩ : ByteArray).size = l.length := by simp [ByteArray.size]

/-! ### strconv.Itoa -/
def itoaS (n : Int) : ByteArray := ⟨(Lib.itoa n).toArray⟩
def strconv_Itoa.f (n : Int) : Option ByteArray := if -9223372036854775808 ≤ n ∧ n ≤ 9223372036854775807 then some (itoaS n) else none
theorem strconv_Itoa.calls (a0 : Int) (r : ByteArray) (w : World) (hT : Tabs w) (h : strconv_Itoa.f a0 = some r) :
    Calls Tryd.prog 23 #[.int .i64 a0] w fun e w' => e = .returned (.string r) ∧ Below w.heap.size w w' := by
  unfold strconv_Itoa.f at h
  split at h
  · rename_i hb
    obtain rfl := Option.some.inj h
    refine (Any.strconv_Itoa Tryd.laysM171 a0 hb.1 hb.2 w hT.pow10).mono ?_
    rintro e w' ⟨rfl, k, os, rfl⟩
    exact ⟨rfl, Lib.below_grow _ _ (Nat.le_refl _) _ _⟩
  · cases h

/-! ### strconv.Atoi: the number, and whether there is an error -/
inductive Num where
  | ok (v : Int)
  | bad (v : Int)
/-- what Atoi answers -/
def atoiN (l : List UInt8) : Num := match Lib.atoiAll l with
  | .ok v => .ok v
  | .range => .bad (Lib.atoiSat l)
  | _ => .bad 0
theorem atoi_ok (s : ByteArray) (hs : s.size ≤ 281474976710656) (v : Int) (h : atoiN s.data.toList = .ok v) (w : World) :
    Calls Tryd.prog 26 #[.string s] w fun e w' => e = .returned (.tuple #[.int .i64 v, .nilIface]) ∧ Below w.heap.size w w' := by
  unfold atoiN at h
  cases h1 : Lib.atoiAll s.data.toList with
  | ok u =>
    rw [h1] at h
    injection h with h
    subst h
    refine (Any.strconv_Atoi_ok Tryd.laysC172 s (by omega) u h1 w).mono ?_
    rintro e w' ⟨rfl, rfl | ⟨t, rfl⟩⟩
    · exact ⟨rfl, Below.refl _ _⟩
    · exact ⟨rfl, Lib.bytesWorld_below _ _ _⟩
  | range => rw [h1] at h; cases h
  | _ => rw [h1] at h; cases h
theorem atoi_bad (s : ByteArray) (hs : s.size ≤ 281474976710656) (v : Int) (h : atoiN s.data.toList = .bad v) (w : World) (hT : Tabs w) :
    Calls Tryd.prog 26 #[.string s] w fun e w' => ∃ N, e = .returned (.tuple #[.int .i64 v, .iface 54 (.pointer (some ⟨N, 0, none⟩))]) ∧ Below w.heap.size w w' := by
  unfold atoiN at h
  cases h1 : Lib.atoiAll s.data.toList with
  | ok u => rw [h1] at h; cases h
  | range =>
    rw [h1] at h
    injection h with h
    subst h
    obtain ⟨tp, p, hc⟩ := hT.erng
    refine (Any.strconv_Atoi_range Tryd.laysC172 s hs h1 _ w hc (Or.inr ⟨tp, p, rfl⟩)).mono ?_
    rintro e w' ⟨N', rfl, _, _, hb⟩
    exact ⟨N', rfl, hb⟩
  | _ =>
    rw [h1] at h
    injection h with h
    subst h
    obtain ⟨tp, p, hc⟩ := hT.esyn
    refine (Any.strconv_Atoi_syntax Tryd.laysC172 s hs h1 _ w hc (Or.inr ⟨tp, p, rfl⟩)).mono ?_
    rintro e w' ⟨N', rfl, _, _, hb⟩
    exact ⟨N', rfl, hb⟩

/-! ### strings.Cut -/
theorem cut_any (s sep : ByteArray) (hs : s.size < 4294967281) (w : World) (hT : Tabs w) :
    Calls Tryd.prog 27 #[.string s, .string sep] w fun e w' => e = .returned (.tuple #[.string ⟨(Lib.cut s.data.toList sep.data.toList).1.toArray⟩, .string ⟨(Lib.cut s.data.toList sep.data.toList).2.1.toArray⟩, .bool (Lib.cut s.data.toList sep.data.toList).2.2]) ∧ Drawn0 w w' := by
  obtain ⟨m, hm⟩ := hT.mlen
  refine (Any.strings_Cut Tryd.lays145 s sep m w hs hm).mono ?_
  rintro e w' ⟨rfl, n, rfl⟩
  exact ⟨rfl, ⟨⟨n, rfl⟩⟩⟩
end Go.Proofs.YtmjgbngmkkeoiaaDoor.Ext
