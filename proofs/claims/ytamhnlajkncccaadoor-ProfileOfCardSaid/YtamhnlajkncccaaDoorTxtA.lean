/-
  TEXTS IN A strings.Builder: direct walks: profile.Text and its closure. By an AI agent.
-/
import Derived.Test.YtamhnlajkncccaaDoorLay
import Derived.Test.YtamhnlajkncccaaDoorProC
import Derived.Test.YtamhnlajkncccaaDoorBase
import Derived.Lib.AppendIntMem
set_option linter.unusedSimpArgs false
set_option linter.unusedVariables false
namespace Go.CK
open Go.RowKit Go.Proofs
theorem extra166 : Builder.Extra Tryd.prog Tryd.lays166_ren where
  sizeBuilder := by kernel_rfl
  liesBuilder := by kernel_rfl
  t5 := Tryd.underlying5
  a5 := Tryd.isAgg5
  z5 := Tryd.sizeOf5
  v5 := Tryd.zeroValue5
  infoByte := by kernel_rfl
  cellsByte := by kernel_rfl
  sizeByte := by kernel_rfl
  neB5 := by decide
theorem extra169 : Builder.Extra Tryd.prog Tryd.lays169_ren where
  sizeBuilder := by kernel_rfl
  liesBuilder := by kernel_rfl
  t5 := Tryd.underlying5
  a5 := Tryd.isAgg5
  z5 := Tryd.sizeOf5
  v5 := Tryd.zeroValue5
  infoByte := by kernel_rfl
  cellsByte := by kernel_rfl
  sizeByte := by kernel_rfl
  neB5 := by decide
abbrev IsB (B b : Nat) (l : List UInt8) (w : World) : Prop := Lib.IsBuilderF 46 5 B b (Lib.byteCells l) w
theorem isB_below {B b : Nat} {l : List UInt8} {w w' : World} (h : IsB B b l w) (hb : Below w.heap.size w w') : IsB B b l w' := by
  have one : ∀ p, Lib.BuilderAtF 46 5 B b p (Lib.byteCells l) w → Lib.BuilderAtF 46 5 B b p (Lib.byteCells l) w' := fun p h => by
    have hlt := h.lt
    obtain ⟨hB, v, hv, hown, hne⟩ := h
    exact ⟨hB, v, (hb.block b hlt).trans hv, hown.kept (row := none) ⟨hb.os, hb.tape, hb.output, hb.size, fun k hk _ => hb.block k hk⟩ (Classical.em _), hne⟩
  exact h.elim (fun x => .inl (one _ x)) (fun x => .inr (one _ x))
theorem write_b (B b : Nat) (l : List UInt8) (s : ByteArray) (w : World) (h : IsB B b l w) (hlen : l.length + s.size ≤ 1000000000) (hBw : B ≤ w.heap.size) :
    Calls Tryd.prog 29 #[.pointer (some ⟨b, 0, none⟩), .string s] w fun e w' => e = .returned (.tuple #[.int .i64 s.size, .nilIface]) ∧ IsB B b (l ++ s.data.toList) w' ∧ Below B w w' :=
  (Any.Builder_WriteString_f Tryd.lays166 extra166 B b (Lib.byteCells l) s w h (by rw [Lib.byteCells_length]; omega) hBw).mono fun e w' ⟨h1, h2, h3⟩ => ⟨h1, by
    have h2 : Lib.BuilderAtF 46 5 B b (.pointer (some ⟨b, 0, none⟩)) (Lib.byteCells l ++ Lib.strCells s) w' := h2
    rw [Lib.strCells_eq, ← Lib.byteCells_append] at h2
    exact .inr h2, h3⟩
theorem string_b (B b : Nat) (l : List UInt8) (w : World) (h : IsB B b l w) (hBw : B ≤ w.heap.size) :
    Calls Tryd.prog 31 #[.pointer (some ⟨b, 0, none⟩)] w fun e w' => e = .returned (.string ⟨l.toArray⟩) ∧ Below B w w' :=
  (Any.Builder_String_any_f Tryd.lays169 extra169 B b l w h hBw).mono fun e w' h1 => ⟨h1.1, h1.2.2⟩
/-- what Itoa does with n in world w -/
def ItoaAt (n : Int) (w : World) : Prop := Calls Tryd.prog 30 #[.int .i64 n] w fun e w' => e = .returned (.string ⟨(Lib.itoa n).toArray⟩) ∧ Below w.heap.size w w'
theorem itoa_small {n : Int} (h0 : 0 ≤ n) (h1 : n < 100) (w : World) : ItoaAt n w := by
  obtain ⟨k, rfl⟩ : ∃ k : Nat, n = k := ⟨n.toNat, by omega⟩
  refine (Any.strconv_Itoa_small Tryd.lays171 k (by omega) w).mono ?_
  rintro e w' ⟨rfl, rfl⟩
  refine ⟨?_, Below.refl _ _⟩
  unfold Lib.itoa
  rw [if_neg (by omega)]
  rfl
theorem itoa_any {n : Int} (h0 : -9223372036854775808 ≤ n) (h1 : n ≤ 9223372036854775807) (w : World) (ht : Lib.TabIs Tryd.prog w "internal/strconv.uint64pow10" .u64 Lib.pow10Tab) : ItoaAt n w := by
  refine (Any.strconv_Itoa Tryd.laysM171 n h0 h1 w ht).mono ?_
  rintro e w' ⟨rfl, k, os, rfl⟩
  exact ⟨rfl, Lib.below_grow _ w (Nat.le_refl _) k os⟩
theorem size_data (s : ByteArray) : s.size = s.data.toList.length := by cases s; rfl
set_option maxHeartbeats 1000000 in
set_option maxRecDepth 100000 in
theorem line_b (B b : Nat) (l : List UInt8) (what : ByteArray) (n : Int) (w : World) (h : IsB B b l w) (hlen : l.length + (lineT what.data.toList n).length ≤ 1000000) (hBw : B ≤ w.heap.size) (hI : ItoaAt n w) :
    Calls Tryd.prog 28 #[.string what, .int .i64 n, .pointer (some ⟨b, 0, none⟩)] w fun e w' => e = .returned (.tuple #[]) ∧ IsB B b (l ++ lineT what.data.toList n) w' ∧ Below B w w' := by
  have hd : (what ++ (⟨#[58, 32]⟩ : ByteArray) ++ (⟨(Lib.itoa n).toArray⟩ : ByteArray) ++ (⟨#[10]⟩ : ByteArray)).data.toList = lineT what.data.toList n := by
    simp [ByteArray.data_append, lineT]
  have hw : what.size + (Lib.itoa n).length + 3 ≤ 1000000 := by
    have := hlen
    simp only [lineT, List.length_append, ← size_data] at this
    simp at this; omega
  have s1 : (what ++ (⟨#[58, 32]⟩ : ByteArray)).size = what.size + 2 := by rw [ByteArray.size_append]; rfl
  have s2 : (⟨(Lib.itoa n).toArray⟩ : ByteArray).size = (Lib.itoa n).length := by simp [ByteArray.size]
  have s3 : (what ++ (⟨#[58, 32]⟩ : ByteArray) ++ (⟨(Lib.itoa n).toArray⟩ : ByteArray)).size = what.size + 2 + (Lib.itoa n).length := by rw [ByteArray.size_append, s1, s2]
  have Hd := Lib.hid hd; clear hd
  have Hl := Lib.hid hlen; clear hlen
  have Hb := Lib.hid h; clear h
  have HI := Lib.hid hI; clear hI
  go_enter Tryd.func28, Tryd.ntmps28
  go_wp2_with fail
  refine HI.out.mono ?_
  rintro e w1 ⟨rfl, hb1⟩
  go_wp2_with fail
  refine (write_b B b l _ w1 (isB_below Hb.out hb1) (by rw [size_data, Hd.out]; have := Hl.out; omega) (by have := hb1.size; omega)).mono ?_
  rintro e w2 ⟨rfl, h2, hb2⟩
  rw [Hd.out] at h2
  go_wp2_with fail
  go_end0
  exact ⟨rfl, h2, (hb1.mono hBw).trans hb2⟩
end Go.CK
