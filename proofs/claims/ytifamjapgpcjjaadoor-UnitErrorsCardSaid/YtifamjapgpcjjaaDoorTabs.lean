/- The library's answers that the statements need: strconv.Itoa, strconv.Atoi and strings.Cut, over what the laid tables hold at the call's begin. -/
import Derived.Test.YtifamjapgpcjjaaDoorShelf
import Derived.Test.YtifamjapgpcjjaaDoorWWords
import Derived.Lib.SmallJoins
import Derived.Lib.AppendIntMem
import Derived.Shelf.Strconv.ErrVarAll
import Derived.Shelf.Strconv.Itoa3
import Derived.Shelf.Strings.Cut
import Derived.Shelf.Strings.FieldsAny
import Derived.Shelf.Strings.OnBuilder
namespace Go.Proofs.YtifamjapgpcjjaaDoor.Ext
open Go Go.Proofs Go.RowKit Go.Proofs.YtifamjapgpcjjaaDoorW.PrintWords

def sCounts : ByteArray := ⟨#[99, 111, 117, 110, 116, 115]⟩
def sElectrons : ByteArray := ⟨#[101, 108, 101, 99, 116, 114, 111, 110, 115]⟩
def sSeconds : ByteArray := ⟨#[115, 101, 99, 111, 110, 100, 115]⟩
/-- What the laid condition gives at the call's begin. -/
structure Base (w : World) : Prop where
  pow10 : Lib.TabIs Tryd.prog w "internal/strconv.uint64pow10" .u64 Lib.pow10Tab
  esyn : ∃ tp p, w.cell? ⟨4, 0, none⟩ = some (.iface tp p)
  erng : ∃ tp p, w.cell? ⟨5, 0, none⟩ = some (.iface tp p)
  white : Lib.WhiteTab 2 w
  ascii : Lib.TabIs Tryd.prog w "strings.asciiSpace" .u8 Lib.asciiSpaceTab
  names : w.cell? ⟨0, 0, none⟩ = some (.string sCounts) ∧ w.cell? ⟨0, 1, none⟩ = some (.string sElectrons) ∧ w.cell? ⟨0, 2, none⟩ = some (.string sSeconds)
  mlen : ∃ m, w.cell? ⟨3, 0, none⟩ = some (.int .i64 m)

/-- What holds from then on: nothing that was there has changed. -/
def Tabs (w : World) : Prop := ∃ w0, Base w0 ∧ Below w0.heap.size w0 w

theorem Tabs.of_base {w : World} (h : Base w) : Tabs w := ⟨w, h, Below.refl _ _⟩
theorem Tabs.below {w w' : World} (h : Tabs w) (hb : Below w.heap.size w w') : Tabs w' := by
  obtain ⟨w0, h0, hb0⟩ := h
  exact ⟨w0, h0, hb0.trans (hb.mono hb0.size)⟩
theorem Tabs.drewN {w : World} (h : Tabs w) (n : Nat) : Tabs (w.drewN n) := h.below ⟨rfl, rfl, rfl, Nat.le_refl _, fun _ _ => rfl⟩
theorem Tabs.drew {w : World} (h : Tabs w) : Tabs w.drew := h.below (Below.refl _ _).drew
theorem Tabs.alloc {w : World} (h : Tabs w) (o : Obj) : Tabs (w.alloc o) := h.below ((Below.refl _ _).alloc (Nat.le_refl _) o)

theorem lt_of_cell {w : World} {b i : Nat} {v : Value} (h : w.cell? ⟨b, i, none⟩ = some v) : b < w.heap.size := by
  rcases Nat.lt_or_ge b w.heap.size with h' | h'
  · exact h'
  · simp [World.cell?, Array.getElem?_eq_none h'] at h
theorem cell_on {w0 w : World} (hb : Below w0.heap.size w0 w) {b : Nat} {v : Value} (h : w0.cell? ⟨b, 0, none⟩ = some v) : w.cell? ⟨b, 0, none⟩ = some v :=
  (hb.cell (p := ⟨b, 0, none⟩) (lt_of_cell h)).trans h

theorem Tabs.pow10 {w : World} (h : Tabs w) : Lib.TabIs Tryd.prog w "internal/strconv.uint64pow10" .u64 Lib.pow10Tab := by
  obtain ⟨w0, h0, hb⟩ := h
  exact (Lib.tabBelow_of_tabIs h0.pow10) w hb
theorem Tabs.esyn {w : World} (h : Tabs w) : ∃ tp p, w.cell? ⟨4, 0, none⟩ = some (.iface tp p) := by
  obtain ⟨w0, h0, hb⟩ := h
  obtain ⟨tp, p, hc⟩ := h0.esyn
  exact ⟨tp, p, cell_on hb hc⟩
theorem Tabs.erng {w : World} (h : Tabs w) : ∃ tp p, w.cell? ⟨5, 0, none⟩ = some (.iface tp p) := by
  obtain ⟨w0, h0, hb⟩ := h
  obtain ⟨tp, p, hc⟩ := h0.erng
  exact ⟨tp, p, cell_on hb hc⟩
theorem Tabs.mlen {w : World} (h : Tabs w) : ∃ m, w.cell? ⟨3, 0, none⟩ = some (.int .i64 m) := by
  obtain ⟨w0, h0, hb⟩ := h
  obtain ⟨m, hc⟩ := h0.mlen
  exact ⟨m, cell_on hb hc⟩

theorem lt_of_cell' {w : World} {b i : Nat} {v : Value} (h : w.cell? ⟨b, i, none⟩ = some v) : b < w.heap.size := by
  rcases Nat.lt_or_ge b w.heap.size with h' | h'
  · exact h'
  · simp [World.cell?, Array.getElem?_eq_none h'] at h
theorem cell_on' {w0 w : World} (hb : Below w0.heap.size w0 w) {b i : Nat} {v : Value} (h : w0.cell? ⟨b, i, none⟩ = some v) : w.cell? ⟨b, i, none⟩ = some v :=
  (hb.cell (p := ⟨b, i, none⟩) (lt_of_cell' h)).trans h
theorem Tabs.white {w : World} (h : Tabs w) : Lib.WhiteTab 2 w := by
  obtain ⟨w0, h0, hb⟩ := h
  exact WhiteTab_below h0.white hb
theorem Tabs.ascii {w : World} (h : Tabs w) : Lib.TabIs Tryd.prog w "strings.asciiSpace" .u8 Lib.asciiSpaceTab := by
  obtain ⟨w0, h0, hb⟩ := h
  exact (Lib.tabBelow_of_tabIs h0.ascii) w hb
theorem Tabs.names {w : World} (h : Tabs w) : w.cell? ⟨0, 0, none⟩ = some (.string sCounts) ∧ w.cell? ⟨0, 1, none⟩ = some (.string sElectrons) ∧ w.cell? ⟨0, 2, none⟩ = some (.string sSeconds) := by
  obtain ⟨w0, h0, hb⟩ := h
  exact ⟨cell_on' hb h0.names.1, cell_on' hb h0.names.2.1, cell_on' hb h0.names.2.2⟩
theorem bdr {B : Nat} {w w' : World} (h : Below B w w') (n : Nat) : Below B w (w'.drewN n) := ⟨h.os, h.tape, h.output, h.size, h.block⟩
theorem size_lit (l : List UInt8) : (⟨l.toArray⟩ : ByteArray).size = l.length := by simp [ByteArray.size]

/-! ### strconv.Itoa -/
def itoaS (n : Int) : ByteArray := ⟨(Lib.itoa n).toArray⟩
def strconv_Itoa.f (n : Int) : Option ByteArray := if -9223372036854775808 ≤ n ∧ n ≤ 9223372036854775807 then some (itoaS n) else none
theorem strconv_Itoa.calls (a0 : Int) (r : ByteArray) (w : World) (hT : Tabs w) (h : strconv_Itoa.f a0 = some r) :
    Calls Tryd.prog 24 #[.int .i64 a0] w fun e w' => e = .returned (.string r) ∧ Below w.heap.size w w' := by
  unfold strconv_Itoa.f at h
  split at h
  · rename_i hb
    obtain rfl := Option.some.inj h
    refine (Any.strconv_Itoa Tryd.laysM171 a0 hb.1 hb.2 w hT.pow10).mono ?_
    rintro e w' ⟨rfl, k, os, rfl⟩
    exact ⟨rfl, Lib.below_grow _ _ (Nat.le_refl _) _ _⟩
  · cases h

/-! ### strconv.Atoi: the number, and whether there is an error -/
inductive Num where
  | ok (v : Int)
  | bad (v : Int)
/-- what Atoi answers -/
def atoiN (l : List UInt8) : Num := match Lib.atoiAll l with
  | .ok v => .ok v
  | .range => .bad (Lib.atoiSat l)
  | _ => .bad 0
theorem atoi_ok (s : ByteArray) (hs : s.size ≤ 281474976710656) (v : Int) (h : atoiN s.data.toList = .ok v) (w : World) :
    Calls Tryd.prog 29 #[.string s] w fun e w' => e = .returned (.tuple #[.int .i64 v, .nilIface]) ∧ Below w.heap.size w w' := by
  unfold atoiN at h
  cases h1 : Lib.atoiAll s.data.toList with
  | ok u =>
    rw [h1] at h
    injection h with h
    subst h
    refine (Any.strconv_Atoi_ok Tryd.laysC172 s (by omega) u h1 w).mono ?_
    rintro e w' ⟨rfl, rfl | ⟨t, rfl⟩⟩
    · exact ⟨rfl, Below.refl _ _⟩
    · exact ⟨rfl, Lib.bytesWorld_below _ _ _⟩
  | range => rw [h1] at h; cases h
  | _ => rw [h1] at h; cases h
theorem atoi_bad (s : ByteArray) (hs : s.size ≤ 281474976710656) (v : Int) (h : atoiN s.data.toList = .bad v) (w : World) (hT : Tabs w) :
    Calls Tryd.prog 29 #[.string s] w fun e w' => ∃ N, e = .returned (.tuple #[.int .i64 v, .iface 80 (.pointer (some ⟨N, 0, none⟩))]) ∧ Below w.heap.size w w' := by
  unfold atoiN at h
  cases h1 : Lib.atoiAll s.data.toList with
  | ok u => rw [h1] at h; cases h
  | range =>
    rw [h1] at h
    injection h with h
    subst h
    obtain ⟨tp, p, hc⟩ := hT.erng
    refine (Any.strconv_Atoi_range Tryd.laysC172 s hs h1 _ w hc (Or.inr ⟨tp, p, rfl⟩)).mono ?_
    rintro e w' ⟨N', rfl, _, _, hb⟩
    exact ⟨N', rfl, hb⟩
  | _ =>
    rw [h1] at h
    injection h with h
    subst h
    obtain ⟨tp, p, hc⟩ := hT.esyn
    refine (Any.strconv_Atoi_syntax Tryd.laysC172 s hs h1 _ w hc (Or.inr ⟨tp, p, rfl⟩)).mono ?_
    rintro e w' ⟨N', rfl, _, _, hb⟩
    exact ⟨N', rfl, hb⟩

/-! ### strings.Cut -/
theorem cut_any (s sep : ByteArray) (hs : s.size < 4294967281) (w : World) (hT : Tabs w) :
    Calls Tryd.prog 28 #[.string s, .string sep] w fun e w' => e = .returned (.tuple #[.string ⟨(Lib.cut s.data.toList sep.data.toList).1.toArray⟩, .string ⟨(Lib.cut s.data.toList sep.data.toList).2.1.toArray⟩, .bool (Lib.cut s.data.toList sep.data.toList).2.2]) ∧ Drawn0 w w' := by
  obtain ⟨m, hm⟩ := hT.mlen
  refine (Any.strings_Cut Tryd.lays145 s sep m w hs hm).mono ?_
  rintro e w' ⟨rfl, n, rfl⟩
  exact ⟨rfl, ⟨⟨n, rfl⟩⟩⟩
/-! ### strings.Fields, strings.Join -/
theorem fields_any (s : ByteArray) (hs : s.size < 4294967281) (w : World) (hT : Tabs w) :
    Calls Tryd.prog 27 #[.string s] w fun e w' => ∃ A, e = .returned (.slice (some ⟨A, 0, none⟩) (Lib.fieldsD s.data.toList).length (Lib.fieldsD s.data.toList).length) ∧ w.heap.size ≤ A ∧
      (∀ (j : Nat) x, (Lib.fieldsD s.data.toList)[j]? = some x → w'.cell? ⟨A, j, none⟩ = some (.string ⟨x.toArray⟩)) ∧ A < w'.heap.size ∧ Below w.heap.size w w' := by
  refine (Any.strings_Fields_any Tryd.lays157 (by kernel_rfl) (by kernel_rfl) (by kernel_rfl) s w hs hT.ascii hT.white).mono ?_
  rintro e w' ⟨A, rfl, hA, hrow, hb⟩
  have hA2 : A < w'.heap.size := (hrow.lt A rfl).2
  refine ⟨A, rfl, hA, ?_, hA2, hb⟩
  intro j x hx
  have h := hrow.cells (g := A) rfl j (.string ⟨x.toArray⟩) (by rw [List.getElem?_map, hx]; rfl)
  rwa [show (⟨A, 0, none⟩ : Addr).add j = ⟨A, j, none⟩ by unfold Addr.add; split <;> simp_all] at h
theorem join_any (bk c : Nat) (xs : List ByteArray) (sep : ByteArray) (w : World) (hcells : ∀ (j : Nat) x, xs[j]? = some x → w.cell? ⟨bk, j, none⟩ = some (.string x)) (hbk : bk < w.heap.size) (hcap : xs.length ≤ c) (hN : xs.length ≤ 1000) (hlen : (Lib.join (xs.map (·.data.toList)) sep.data.toList).length ≤ 1000000) :
    Calls Tryd.prog 25 #[.slice (some ⟨bk, 0, none⟩) xs.length c, .string sep] w fun e w' => e = .returned (.string ⟨(Lib.join (xs.map (·.data.toList)) sep.data.toList).toArray⟩) ∧ Below w.heap.size w w' :=
  Any.strings_Join Tryd.lays156 Tryd.Builder_Extra_156 bk 0 c xs sep w (fun j x h => by rw [Nat.zero_add]; exact hcells j x h) hbk (by omega) hcap (by omega)
end Go.Proofs.YtifamjapgpcjjaaDoor.Ext
