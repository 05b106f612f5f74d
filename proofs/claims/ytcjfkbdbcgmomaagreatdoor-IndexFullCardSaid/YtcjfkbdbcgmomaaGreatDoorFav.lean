/-
  Texts of this claim joined (wip/gen/bundle.py), those declarations only that are needed: IxK IxL RcIxb. By an AI agent.
-/
import Derived.Test.YtcjfkbdbcgmomaaGreatDoorFas
import Derived.Test.YtcjfkbdbcgmomaaGreatDoorFaa
import Derived.Lib.AppendIntMem
import Derived.Test.YtcjfkbdbcgmomaaGreatDoorFaq
import Derived.Lib.LaidTab
import Derived.Deep.RegionHeld3
import Derived.Deep.DrawnRows
import Derived.Test.YtcjfkbdbcgmomaaGreatDoorProg
import Derived.Test.YtcjfkbdbcgmomaaGreatDoorFap
import Derived.Test.YtcjfkbdbcgmomaaGreatDoorFat
import Derived.Test.YtcjfkbdbcgmomaaGreatDoorFau
set_option linter.unusedSimpArgs false
set_option linter.unusedVariables false
namespace Go.CK
open Go.RowKit Go.Proofs
abbrev IsW (B b : Nat) (l : List UInt8) (w : World) : Prop := Lib.IsBuilder 162 5 B b (Lib.byteCells l) w
theorem lies_w : liesAt Tryz.prog Tryz.prog.depth 162 (2 / Tryz.prog.cellsOf 162) 0 160 1 = true := by kernel_rfl
theorem size_b : (Tryz.prog.info? 160).map (·.size) = some 2 := by kernel_rfl
theorem lt_heap {w : World} {b : Nat} {o : Obj} (h : w.heap[b]? = some o) : b < w.heap.size := (Array.getElem?_eq_some_iff.1 h).1
structure Kq (b : Nat) (w w' : World) : Prop where
 size : w.heap.size ≤ w'.heap.size
 keep : ∀ k, k < w.heap.size -> k ≠ b -> (∀ cs fz, w.heap[k]? ≠ some (.cells cs 5 fz)) -> w'.heap[k]? = w.heap[k]?
theorem Kq.refl (b : Nat) (w : World) : Kq b w w := ⟨Nat.le_refl _, fun _ _ _ _ => rfl⟩
theorem Kq.trans {b : Nat} {w w1 w2 : World} (h : Kq b w w1) (k : Kq b w1 w2) : Kq b w w2 := ⟨Nat.le_trans h.size k.size, fun j hj hb hc => by
 have e := h.keep j hj hb hc; exact (k.keep j (Nat.lt_of_lt_of_le hj h.size) hb (by rw [e]; exact hc)).trans e⟩
theorem Kq.below {b : Nat} {w w' : World} (h : Below w.heap.size w w') : Kq b w w' := ⟨h.size, fun j hj _ _ => h.block j hj⟩
theorem Kq.set (b o : Nat) (v : Value) (w : World) : Kq b w (w.setCell ⟨b, o, none⟩ v) := ⟨by simp [World.setCell], fun j _ hb _ => Below.heap_setCell _ _ _ _ hb⟩
theorem Kq.grown {b B n : Nat} {v : Value} {xs : List Value} {w w' : World} (h : w.grownBy w' v.ownBlock) (ho : w.ownsRow B 5 1 v n xs) : Kq b w w' := ⟨h.size, fun j hj _ hc => h.block j hj fun e => by
 rcases ho.2 with ⟨rfl, _⟩ | ⟨g, cap, cur, rfl, _, hg, _⟩
 ·simp [Value.ownBlock] at e
 ·simp only [Value.ownBlock, Option.some.injEq] at e; subst e; exact hc _ _ hg⟩
set_option maxHeartbeats 1000000 in
set_option maxRecDepth 100000 in
theorem cc_w (B b : Nat) (l : List UInt8) (w : World) (h : IsW B b l w) :
  Calls Tryz.prog 251 #[.pointer (some ⟨b, 0, none⟩)] w fun e w' => e = .returned (.tuple #[]) ∧ Lib.BuilderAt 162 5 B b (.pointer (some ⟨b, 0, none⟩)) (Lib.byteCells l) w' ∧ Below B w w' ∧ Kq b w w' := by
 obtain ⟨j, hj, hjs⟩ := Option.map_eq_some_iff.1 size_b; rcases h with h | h
 ·have h0 := h.cell0; have hsh := h.shape; have hfz := h.frozen0; have H := Lib.hid h; clear h
  go_enter Tryz.func251, Tryz.ntmps251
  go_wp2_with fail
  rw [Lib.run_to_unsafe w ⟨b, 0, none⟩ Tryz.underlying157 Tryz.underlying304 hj (by rw [hjs]; decide) hsh (Nat.zero_lt_succ 1)]
  simp only [Result.andThen]; rw [Oper.upon_value]
  go_wp2_with fail
  rw [run_callFunc_extern Tryz.func257 (by kernel_rfl) (by kernel_rfl) (by kernel_rfl) (e := Extern.AbiNoEscape.same) (by kernel_rfl)]
  rw [Lib.run_noEscape]; simp only [Result.andThen]; rw [Oper.upon_value]
  go_wp2_with fail
  rw [Lib.run_from_unsafe w ⟨b, 0, none⟩ Tryz.underlying304 Tryz.underlying157 hj hsh lies_w]; simp only [Result.andThen]; rw [Oper.upon_value]
  go_wp2_with fail
  go_end0
  exact ⟨rfl, H.out.used _, (Below.refl B w).setCell (p := ⟨b, 0, none⟩) H.out.1 _, Kq.set b 0 _ w⟩
 ·have h0 := h.cell0; have H := Lib.hid h; clear h
  go_enter Tryz.func251, Tryz.ntmps251
  go_wp2_with fail
  rw [Lib.run_neq_ptr_same w _ Tryz.underlying157 hj]
  go_wp2_with fail
  go_end0
  exact ⟨rfl, H.out, Below.refl B _, Kq.refl _ _⟩
theorem info8 : (Tryz.prog.info? 5).map (fun i => (i.zero, i.size, i.bytes)) = some (some (.int .u8 0), 1, 1) := by kernel_rfl
theorem byteCells_snoc (l : List UInt8) (c : UInt8) : Lib.byteCells (l ++ [c]) = Lib.byteCells l ++ [.int .u8 c.toNat] := by simp [Lib.byteCells]
set_option maxHeartbeats 2000000 in
set_option maxRecDepth 100000 in
theorem byte_w (B b : Nat) (l : List UInt8) (c : UInt8) (w : World) (h : IsW B b l w) (hlen : l.length ≤ 1000000000) (hBw : B ≤ w.heap.size) :
  Calls Tryz.prog 229 #[.pointer (some ⟨b, 0, none⟩), .int .u8 c.toNat] w fun e w' => e = .returned .nilIface ∧ IsW B b (l ++ [c]) w' ∧ Below B w w' ∧ Kq b w w' := by
 obtain ⟨i0, hi, hz0, hz1, hz2⟩ := info_parts info8; have hbl := Lib.byteCells_length l; rw [show IsW B b (l ++ [c]) = Lib.IsBuilder 162 5 B b (Lib.byteCells l ++ [.int .u8 c.toNat]) by unfold IsW; rw [byteCells_snoc]]
 have H := Lib.hid h; clear h
 go_enter Tryz.func229, Tryz.ntmps229
 go_wp2_with fail
 refine (cc_w B b l _ H.out).mono ?_; rintro e w1 ⟨rfl, ⟨hB, v, hbk, hown, hne⟩, hb1, hq1⟩; have c0 : w1.cell? ⟨b, 0, none⟩ = some (.pointer (some ⟨b, 0, none⟩)) := by rw [Lib.cell_of_heap hbk]; rfl
 have c1 : w1.cell? ⟨b, 1, none⟩ = some v := by rw [Lib.cell_of_heap hbk]; rfl
 have hs1 := hb1.size
 go_wp2_with (at_builtin; refine wpList_append_own _ rfl _ _ 158 rfl B 5 i0 (.int .u8 0) 1 1 Tryz.underlying158 hi hz0 hz1 hz2 rfl (by decide) _ _ _ rfl (hown.alloc _) ⟨w1.heap.size, 0, none⟩ 1 1 [.int .u8 c.toNat] rfl rfl ?c1 ?c2 ?c3 ?c4 ?c5 ?_)
 case c1 =>
  intro j u hj
  match j, hj with
  | 0, hj => simp at hj; subst hj; simp [Addr.add]
 case c2 => intro u hu; simp at hu; subst hu; rfl
 case c3 => rw [hbl]; unfold maxLen; omega
 case c4 => rw [hbl]; omega
 case c5 => simp; omega
 intro v' w2 hown' hgrow _
 have hb2 : w2.heap[b]? = some (.cells #[.pointer (some ⟨b, 0, none⟩), v] 162 (0, 0)) := by
  rw [hgrow.block b (by have := lt_heap hbk; simp; omega) (fun e => hne e.symm), Lib.alloc_old w1 _ b (lt_heap hbk)]
  exact hbk
 have d0 : w2.cell? ⟨b, 0, none⟩ = some (.pointer (some ⟨b, 0, none⟩)) := by rw [Lib.cell_of_heap hb2]; rfl
 have d1 : w2.cell? ⟨b, 1, none⟩ = some v := by rw [Lib.cell_of_heap hb2]; rfl
 have f1 : w2.frozen? ⟨b, 1, none⟩ = false := Lib.frozen_of_heap hb2 1
 obtain ⟨ad, cap, rfl⟩ : ∃ ad cap, v' = .slice ad (l.length + 1) cap := by
  rcases hown'.2 with ⟨hv, h0⟩ | ⟨g, cap, cur, hv, _⟩
  ·omega
  ·exact ⟨_, cap, hv⟩
 go_wp2_with fail
 go_ret
 refine ⟨rfl, .inr (Lib.BuilderAt.put (T := 162) (e := 5) hB hb2 (bs' := Lib.byteCells l ++ [.int .u8 c.toNat]) (by rw [List.length_append, hbl]; simpa using hown') (by decide)), ?_, ((hq1.trans (Kq.below ((Below.refl _ w1).alloc (Nat.le_refl _) _))).trans (Kq.grown hgrow (hown.alloc _))).trans (Kq.set b 1 _ _)⟩
 exact ((hb1.alloc (by omega) _).grown hgrow (by simp; omega) (fun k hk => (hown.lt k hk).1)).setCell (p := ⟨b, 1, none⟩) hB _
set_option maxHeartbeats 2000000 in
set_option maxRecDepth 100000 in
theorem wstr_w (B b : Nat) (l : List UInt8) (s : ByteArray) (w : World) (h : IsW B b l w) (hlen : l.length + s.size ≤ 1000000000) (hBw : B ≤ w.heap.size) :
  Calls Tryz.prog 230 #[.pointer (some ⟨b, 0, none⟩), .string s] w fun e w' => e = .returned (.tuple #[.int .i64 s.size, .nilIface]) ∧ IsW B b (l ++ s.data.toList) w' ∧ Below B w w' ∧ Kq b w w' := by
 obtain ⟨i0, hi, hz0, hz1, hz2⟩ := info_parts info8; have hbl := Lib.byteCells_length l; rw [show IsW B b (l ++ s.data.toList) = Lib.IsBuilder 162 5 B b (Lib.byteCells l ++ Lib.strCells s) by unfold IsW; rw [Lib.byteCells_append, Lib.strCells_eq]]
 have H := Lib.hid h; clear h
 go_enter Tryz.func230, Tryz.ntmps230
 go_wp2_with fail
 refine (cc_w B b l _ H.out).mono ?_; rintro e w1 ⟨rfl, ⟨hB, v, hbk, hown, hne⟩, hb1, hq1⟩; have c0 : w1.cell? ⟨b, 0, none⟩ = some (.pointer (some ⟨b, 0, none⟩)) := by rw [Lib.cell_of_heap hbk]; rfl
 have c1 : w1.cell? ⟨b, 1, none⟩ = some v := by rw [Lib.cell_of_heap hbk]; rfl
 have hs1 := hb1.size
 go_wp2_with (at_builtin; refine Lib.wpList_append_own_string _ rfl _ _ 158 9 rfl B 5 i0 Tryz.underlying158 Tryz.underlying9 hi hz0 hz1 hz2 _ _ _ rfl hown s rfl ?c3 ?c4 ?c5 ?_)
 case c3 => rw [hbl]; unfold maxLen; omega
 case c4 => rw [hbl]; omega
 case c5 => omega
 intro v' w2 hown' hgrow _
 have hb2 : w2.heap[b]? = some (.cells #[.pointer (some ⟨b, 0, none⟩), v] 162 (0, 0)) := by
  rw [hgrow.block b (lt_heap hbk) (fun e => hne e.symm)]; exact hbk
 have d0 : w2.cell? ⟨b, 0, none⟩ = some (.pointer (some ⟨b, 0, none⟩)) := by rw [Lib.cell_of_heap hb2]; rfl
 have d1 : w2.cell? ⟨b, 1, none⟩ = some v := by rw [Lib.cell_of_heap hb2]; rfl
 have f1 : w2.frozen? ⟨b, 1, none⟩ = false := Lib.frozen_of_heap hb2 1
 obtain ⟨ao, n', cap, rfl⟩ : ∃ ao n' cap, v' = .slice ao n' cap := by
  rcases hown'.2 with ⟨hv, _⟩ | ⟨g, cap, cur, hv, _⟩
  ·exact ⟨_, _, _, hv⟩
  ·exact ⟨_, _, _, hv⟩
 go_wp2_with fail
 go_ret2
 refine ⟨rfl, .inr (Lib.BuilderAt.put (T := 162) (e := 5) hB hb2 (bs' := Lib.byteCells l ++ Lib.strCells s) (by rw [List.length_append, hbl, Lib.strCells_length]; exact hown') (by decide)), ?_, (hq1.trans (Kq.grown hgrow hown)).trans (Kq.set b 1 _ _)⟩
 exact (hb1.grown hgrow (by omega) (fun k hk => (hown.lt k hk).1)).setCell (p := ⟨b, 1, none⟩) hB _
theorem cells8 : Tryz.prog.cellsOf 5 = 1 := by kernel_rfl
set_option maxHeartbeats 2000000 in
set_option maxRecDepth 100000 in
theorem string_w (B b : Nat) (l : List UInt8) (w : World) (h : IsW B b l w) (h0 : l ≠ []) :
  Calls Tryz.prog 98 #[.pointer (some ⟨b, 0, none⟩)] w fun e w' => e = .returned (.string ⟨l.toArray⟩) ∧ Below B w w' := by
 obtain ⟨p, hB, v, hbk, hown, hne⟩ : ∃ p, Lib.BuilderAt 162 5 B b p (Lib.byteCells l) w := by
  rcases h with h | h
  ·exact ⟨_, h⟩
  ·exact ⟨_, h⟩
 have hl0 : l.length ≠ 0 := by simpa using h0
 rw [Lib.byteCells_length] at hown; rcases hown.2 with ⟨_, hz⟩ | ⟨g, cap, cur, rfl, hbg, hg, hnc, hcm, hcs, htake⟩
 ·exact absurd hz hl0
 unfold maxLen at hcm; have hg' : w.drew.heap[g]? = some (.cells cur 5 (0, 0)) := hg
 have c1 : w.drew.cell? ⟨b, 1, none⟩ = some (.slice (some ⟨g, 0, none⟩) l.length cap) := by
  have : w.drew.heap[b]? = some (.cells #[p, .slice (some ⟨g, 0, none⟩) l.length cap] 162 (0, 0)) := hbk; rw [Lib.cell_of_heap this]; rfl
 have hSD : (Builtin.unsafeSliceData_ #[158] 222 #[.slice (some ⟨g, 0, none⟩) l.length cap]).run Tryz.prog w.drew = .ok (.pointer (some ⟨g, 0, none⟩)) w.drew := Lib.run_unsafeSliceData_row _ _ _ _ _ _ (by omega)
 have hUS : (Builtin.unsafeString_ #[222, 3] 9 #[.pointer (some ⟨g, 0, none⟩), .int .i64 l.length]).run Tryz.prog w.drew = .ok (.string ⟨l.toArray⟩) (w.drew.freeze ⟨g, 0, none⟩ l.length) :=
  Lib.run_unsafeString_row w.drew _ _ _ 5 Tryz.underlying222 cells8 g cur.size (by simp [World.shape?, hg']) l h0 (by omega) (by omega) fun j x hx => hown.cells (g := g) rfl j (.int .u8 x.toNat) (by simp [Lib.byteCells, hx])
 clear htake hcs; have mixed : Tryz.prog.follows .mixedOrders = true := by kernel_rfl
 go_enter Tryz.func98, Tryz.ntmps98
 go_wp2
 go_region_o
 all_goals (go_wp2; go_ret; exact ⟨rfl, Lib.below_freeze (Below.drew (Below.refl B w)) (p := ⟨g, 0, none⟩) hbg _⟩)
set_option maxHeartbeats 2000000 in
set_option maxRecDepth 100000 in
theorem string_w0 (B b : Nat) (p : Value) (w : World) (hbk : w.heap[b]? = some (.cells #[p, .slice none 0 0] 162 (0, 0))) :
  Calls Tryz.prog 98 #[.pointer (some ⟨b, 0, none⟩)] w fun e w' => e = .returned (.string ⟨#[]⟩) ∧ Below B w w' := by
 have c1 : w.drew.cell? ⟨b, 1, none⟩ = some (.slice none 0 0) := by
  have : w.drew.heap[b]? = some (.cells #[p, .slice none 0 0] 162 (0, 0)) := hbk; rw [Lib.cell_of_heap this]; rfl
 have hSD : (Builtin.unsafeSliceData_ #[158] 222 #[.slice none 0 0]).run Tryz.prog w.drew = .ok (.pointer none) w.drew := rfl; have hUS : ∀ (W : World) (q : Option Addr), (Builtin.unsafeString_ #[222, 3] 9 #[.pointer q, .int .i64 0]).run Tryz.prog W = .ok (.string .empty) W := fun W q => Lib.run_unsafeString_none W _ _ _ q; have mixed : Tryz.prog.follows .mixedOrders = true := by kernel_rfl
 go_enter Tryz.func98, Tryz.ntmps98
 go_wp2
 go_region_o
 all_goals (go_wp2; go_ret; exact ⟨rfl, Below.drew (Below.refl B w)⟩)
theorem isW_below {B b : Nat} {l : List UInt8} {w w' : World} (h : IsW B b l w) (hb : Below w.heap.size w w') : IsW B b l w' := by
 have one : ∀ p, Lib.BuilderAt 162 5 B b p (Lib.byteCells l) w -> Lib.BuilderAt 162 5 B b p (Lib.byteCells l) w' := fun p h => by
  obtain ⟨hB, v, hv, hown, hne⟩ := h; exact ⟨hB, v, (hb.block b (lt_heap hv)).trans hv, hown.kept (row := none) ⟨hb.os, hb.tape, hb.output, hb.size, fun k hk _ => hb.block k hk⟩ (Classical.em _), hne⟩
 exact h.elim (fun x => .inl (one _ x)) (fun x => .inr (one _ x))
end Go.CK
namespace Go.CK
open Go.RowKit Go.Proofs
def Tb (w : World) : Prop := ∃ T fz, w.heap[AM.KB]? = some (.cells AM.KV.toArray T fz)
theorem Tb.lt {w : World} (h : Tb w) : AM.KB < w.heap.size := by
 obtain ⟨T, fz, h⟩ := h; exact lt_heap h
theorem Tb.below {B : Nat} {w w' : World} (h : Tb w) (hB : AM.KB < B) (hb : Below B w w') : Tb w' := by
 obtain ⟨T, fz, h⟩ := h; exact ⟨T, fz, (hb.block _ hB).trans h⟩
def ItoaAt (n : Int) (w : World) : Prop := Calls Tryz.prog 231 #[.int .i64 n] w fun e w' => e = .returned (.string ⟨(Lib.itoa n).toArray⟩) ∧ Below w.heap.size w w'
theorem itoa_at {n : Int} (h0 : -9223372036854775808 ≤ n) (h1 : n ≤ 9223372036854775807) {w : World} (ht : Tb w) : ItoaAt n w := by
 have hT : Lib.TabIs Tryz.prog w "internal/strconv.uint64pow10" .u64 Lib.pow10Tab := by
  obtain ⟨T, fz, h⟩ := ht; unfold Lib.TabIs World.var?; rw [show Tryz.prog.globalNamed "internal/strconv.uint64pow10" = some AM.KB by kernel_rfl]
  simp only [Option.bind_some, h]; rfl
 refine (Any.strconv_Itoa Tryz.laysM171 n h0 h1 w hT).mono ?_; rintro e w' ⟨rfl, k, os, rfl⟩; exact ⟨rfl, Lib.below_grow _ w (Nat.le_refl _) k os⟩
theorem size_data (s : ByteArray) : s.size = s.data.toList.length := by cases s; rfl
theorem decDigits_len : ∀ (k u : Nat), u < 10 ^ (k + 1) -> (Lib.decDigits u).length ≤ k + 1
 | 0, u, h => by rw [Lib.decDigits, dif_pos (by simpa using h)]; simp
 | k + 1, u, h => by
  rw [Lib.decDigits]; split
  ·simp
  ·have := decDigits_len k (u / 10) (by rw [Nat.pow_succ] at h; omega)
   simp; omega
theorem itoa_len {n : Int} (h0 : -9223372036854775808 ≤ n) (h1 : n ≤ 9223372036854775807) : (Lib.itoa n).length ≤ 30 := by
 unfold Lib.itoa; split
 ·have := decDigits_len 19 n.natAbs (by omega)
  simp; omega
 ·have := decDigits_len 19 n.toNat (by omega)
  omega
def numT (tag : UInt8) (n : Int) : List UInt8 := tag :: Lib.itoa n
set_option maxHeartbeats 2000000 in
set_option maxRecDepth 100000 in
theorem number_w (B b : Nat) (l : List UInt8) (tag : UInt8) (n : Int) (w : World) (h : IsW B b l w) (ht : Tb w) (hKB : AM.KB < B) (h0 : -9223372036854775808 ≤ n) (h1 : n ≤ 9223372036854775807) (hlen : l.length ≤ 100000000) (hBw : B ≤ w.heap.size) :
  Calls Tryz.prog 198 #[.pointer (some ⟨b, 0, none⟩), .int .u8 tag.toNat, .int .i64 n] w fun e w' => e = .returned (.tuple #[]) ∧ IsW B b (l ++ numT tag n) w' ∧ Below B w w' ∧ Kq b w w' := by
 have hil := itoa_len h0 h1; have mixed : Tryz.prog.follows .mixedOrders = true := by kernel_rfl
 have hw : l ++ numT tag n = l ++ [tag] ++ (⟨(Lib.itoa n).toArray⟩ : ByteArray).data.toList := by simp [numT]
 rw [hw]; have Hw := Lib.hid hw; clear hw; have H := Lib.hid h; clear h; have HT := Lib.hid ht; clear ht
 go_enter Tryz.func198, Tryz.ntmps198
 go_wp2_with fail
 refine (byte_w B b l tag w H.out (by omega) hBw).mono ?_
 rintro e w1 ⟨rfl, h1w, hb1, hq1⟩; have hi : ∀ w', Below w1.heap.size w1 w' -> IsW B b (l ++ [tag]) w' ∧ ItoaAt n w' ∧ Below B w w' ∧ B ≤ w'.heap.size := fun w' hb => ⟨isW_below h1w hb, itoa_at h0 h1 (HT.out.below hKB (hb1.trans (hb.mono (by have := hb1.size; omega)))), hb1.trans (hb.mono (by have := hb1.size; omega)), by have := hb1.size; have := hb.size; omega⟩
 have HI := Lib.hid hi; clear hi; have hn : ∀ w' w'', Below w1.heap.size w1 w' -> Below w'.heap.size w' w'' -> Below w1.heap.size w1 w'' := fun w' w'' ha hb => ha.trans (hb.mono ha.size); have hm : ∀ w' w'', Below w1.heap.size w1 w' -> Below B w' w'' -> Below B w w'' := fun w' w'' ha hb => (hb1.trans (ha.mono (by have := hb1.size; omega))).trans hb
 have hk : ∀ w' w'', Below w1.heap.size w1 w' -> Kq b w' w'' -> Kq b w w'' := fun w' w'' ha hb => (hq1.trans (Kq.below ha)).trans hb; have HK := Lib.hid hk; clear hk; have HN := Lib.hid hn; clear hn; have HM := Lib.hid hm; clear hm; have HB := Lib.hid hb1; clear hb1; clear h1w hq1
 go_wp2_with fail
 go_region_held3 (fun w' => Below B w w') (first | assumption | exact HM.out _ _ (by repeat (first | assumption | exact Below.refl _ _ | refine Below.drew ?_)) (Below.refl _ _)) (first | (go_at_call 231; refine ((HI.out _ (by repeat (first | assumption | exact Below.refl _ _ | refine Below.drew ?_))).2.1).mono ?_; rintro e w2 ⟨rfl, hb2⟩; have hb2 := HN.out _ _ (by repeat (first | assumption | exact Below.refl _ _ | refine Below.drew ?_)) hb2) | (go_at_call 230; refine (wstr_w B b _ _ _ (HI.out _ (by repeat (first | assumption | exact Below.refl _ _ | refine Below.drew ?_))).1 (by simp [ByteArray.size]; omega) (HI.out _ (by repeat (first | assumption | exact Below.refl _ _ | refine Below.drew ?_))).2.2.2).mono ?_; rintro e w3 ⟨rfl, h3, hb3, hq3⟩; have hq3 := HK.out _ _ (by repeat (first | assumption | exact Below.refl _ _ | refine Below.drew ?_)) hq3; have hb3 := HM.out _ _ (by repeat (first | assumption | exact Below.refl _ _ | refine Below.drew ?_)) hb3))
 all_goals (go_wp2_with fail; go_end0; exact ⟨rfl, h3, hb3, hq3⟩)
def wordT (s : ByteArray) : List UInt8 := numT 115 s.size ++ (58 :: s.data.toList)
theorem wordT_len (s : ByteArray) : s.size ≤ (wordT s).length := by simp only [wordT, List.length_append, List.length_cons, ← size_data]; omega
set_option maxHeartbeats 2000000 in
set_option maxRecDepth 100000 in
theorem word_w (B b : Nat) (l : List UInt8) (s : ByteArray) (w : World) (h : IsW B b l w) (ht : Tb w) (hKB : AM.KB < B) (hlen : l.length + (wordT s).length ≤ 100000000) (hBw : B ≤ w.heap.size) :
  Calls Tryz.prog 199 #[.pointer (some ⟨b, 0, none⟩), .string s] w fun e w' => e = .returned (.tuple #[]) ∧ IsW B b (l ++ wordT s) w' ∧ Below B w w' ∧ Kq b w w' := by
 have hsl := wordT_len s; have hw : l ++ wordT s = l ++ numT 115 s.size ++ [58] ++ s.data.toList := by simp [wordT]
 have hl2 : (l ++ numT 115 s.size).length + 1 + s.size ≤ 100000000 := by
  simp only [wordT, List.length_append, List.length_cons, ← size_data] at hlen ⊢; omega
 rw [hw]; have Hw := Lib.hid hw; clear hw; have Hl := Lib.hid hl2; clear hl2; have H := Lib.hid h; clear h; have HT := Lib.hid ht; clear ht
 go_enter Tryz.func199, Tryz.ntmps199
 go_wp2_with fail
 refine (number_w B b l 115 s.size w H.out HT.out hKB (by omega) (by omega) (by omega) hBw).mono ?_
 rintro e w1 ⟨rfl, h1, hb1, hq1⟩; have hs1 := hb1.size
 go_wp2_with fail
 refine (byte_w B b _ 58 w1 h1 (by have := Hl.out; omega) (by omega)).mono ?_
 rintro e w2 ⟨rfl, h2, hb2, hq2⟩; have hs2 := hb2.size
 go_wp2_with fail
 refine (wstr_w B b _ s w2 h2 (by have := Hl.out; simp only [List.length_append, List.length_cons, List.length_nil] at this ⊢; omega) (by omega)).mono ?_
 rintro e w3 ⟨rfl, h3, hb3, hq3⟩
 go_wp2_with fail
 go_end0
 exact ⟨rfl, h3, (hb1.trans hb2).trans hb3, (hq1.trans hq2).trans hq3⟩
mutual
def txtT : Tm -> List UInt8
 | .mk k n s l => if k = 0 then numT 105 n else if k = 1 then numT 118 n else if k = 2 then numT 102 l.length ++ wordT s ++ txtL l else numT 107 k ++ numT 110 n ++ wordT s
def txtL : List Tm -> List UInt8
 | [] => []
 | t :: l => txtT t ++ txtL l
end
mutual
def Tm.io : Tm -> Prop
 | .mk k n _ l => IntOk k ∧ IntOk n ∧ Tm.ios l
def Tm.ios : List Tm -> Prop
 | [] => True
 | t :: l => Tm.io t ∧ Tm.ios l
end
theorem Tm.ios_mem : ∀ {l : List Tm}, Tm.ios l ↔ ∀ t ∈ l, t.io
 | [] => by simp [Tm.ios]
 | a :: l => by simp only [Tm.ios, Tm.ios_mem (l := l), List.mem_cons, forall_eq_or_imp]
theorem txtL_app : ∀ (l m : List Tm), txtL (l ++ m) = txtL l ++ txtL m
 | [], m => rfl
 | t :: l, m => by rw [List.cons_append, txtL, txtL, txtL_app l m, List.append_assoc]
open Go.AM in
theorem tm_cells (t : Tm) : (Tm.av t).cells = [.int .i64 t.kind, .int .i64 t.num, .str t.name, .sl .no (t.args.map Tm.av)] := by
 cases t; simp [Tm.av, AV.cells, Tm.kind, Tm.num, Tm.name, Tm.args, Tm.avs_map]
open Go.AM in
theorem tms_at {M : Hp} {l : List Tm} {v : Value} (h : FV M (slA Tm.av l) v) : ∃ a k, v = .slice a l.length k ∧ ∀ i (hi : i < l.length), ∃ B off sv, a = some ⟨B, off, none⟩ ∧ M B (off + i * 4) = some (.int .i64 l[i].kind) ∧ M B (off + i * 4 + 1) = some (.int .i64 l[i].num) ∧ M B (off + i * 4 + 2) = some (.string l[i].name) ∧ M B (off + i * 4 + 3) = some sv ∧ FV M (slA Tm.av l[i].args) sv ∧ l[i].name.size ≤ lim := by
 obtain ⟨a, k, B, off, sz, rfl, _, _, _, _, ha, he⟩ := h.inv_sl; rw [List.length_map]; refine ⟨a, k, rfl, fun i hi => ?_⟩; have hne : l.map Tm.av ≠ [] := fun e => by rw [List.map_eq_nil_iff] at e; subst e; cases hi
 obtain ⟨e1, e2⟩ := he i (by simpa using hi)
 rw [List.getElem_map] at e1 e2; rw [tm_cells] at e1; simp only [List.length_cons, List.length_nil] at e1; subst e1; have hc : (l[i].av).cells = _ := tm_cells l[i]
 have g : ∀ j (hj : j < 4) x, [AV.int .i64 l[i].kind, .int .i64 l[i].num, .str l[i].name, .sl .no (l[i].args.map Tm.av)][j]? = some x -> ∃ u, M B (off + i * 4 + j) = some u ∧ FV M x u := fun j hj x hx => by
  obtain ⟨u, h1, _, h2⟩ := e2 j (by rw [hc]; exact hj)
  refine ⟨u, h1, ?_⟩
  have : (l[i].av).cells[j]'(by rw [hc]; exact hj) = x := by
   have : (l[i].av).cells[j]? = some x := by rw [hc]; exact hx
   exact (List.getElem?_eq_some_iff.1 this).2
  rw [← this]; exact h2
 obtain ⟨u0, g0, f0⟩ := g 0 (by omega) _ rfl
 obtain ⟨u1, g1, f1⟩ := g 1 (by omega) _ rfl
 obtain ⟨u2, g2, f2⟩ := g 2 (by omega) _ rfl
 obtain ⟨u3, g3, f3⟩ := g 3 (by omega) _ rfl
 cases f0; cases f1
 cases f2 with
 | str _ hs => exact ⟨B, off, u3, ha hne, by simpa using g0, g1, g2, g3, f3, hs⟩
theorem txtL_take {l : List Tm} {j : Nat} (h : j < l.length) : txtL (l.take (j + 1)) = txtL (l.take j) ++ txtT l[j] := by
 rw [List.take_succ_eq_append_getElem h, txtL_app]; simp [txtL]
theorem txtL_le (l : List Tm) (j : Nat) : (txtL (l.take j)).length ≤ (txtL l).length := by
 have := txtL_app (l.take j) (l.drop j); rw [List.take_append_drop] at this; rw [this, List.length_append]; omega
open Go.AM in
def TermW (W : World) (t : Tm) : Prop := ∀ sv, FV (Hp.of W) (slA Tm.av t.args) sv -> ∀ (b : Nat) (l0 : List UInt8) (w : World), IsW W.heap.size b l0 w -> Below W.heap.size W w -> l0.length + (txtT t).length ≤ 100000000 ->
 Calls Tryz.prog 151 #[.pointer (some ⟨b, 0, none⟩), .agg #[.int .i64 t.kind, .int .i64 t.num, .string t.name, sv]] w fun e w' => e = .returned (.tuple #[]) ∧ IsW W.heap.size b (l0 ++ txtT t) w' ∧ Below W.heap.size w w' ∧ Kq b w w'
open Go.AM in
set_option maxHeartbeats 2000000 in
set_option maxRecDepth 100000 in
theorem terms_w {W : World} {l : List Tm} (hl : ∀ t ∈ l, TermW W t) {sv : Value} (hv : FV (Hp.of W) (slA Tm.av l) sv) (b : Nat) (l0 : List UInt8) (w : World) (h : IsW W.heap.size b l0 w) (hb : Below W.heap.size W w) (hlen : l0.length + (txtL l).length ≤ 100000000) :
  Calls Tryz.prog 97 #[.pointer (some ⟨b, 0, none⟩), sv] w fun e w' => e = .returned (.tuple #[]) ∧ IsW W.heap.size b (l0 ++ txtL l) w' ∧ Below W.heap.size w w' ∧ Kq b w w' := by
 obtain ⟨a, k, rfl, hat⟩ := tms_at hv
 have hll : l.length ≤ lim := by
  obtain ⟨_, _, _, _, _, _, _, _, h1, _⟩ := hv.inv_sl; simpa using h1
 unfold lim at hll; have HA := Lib.hid hat; clear hat; have H := Lib.hid h; clear h; have HB := Lib.hid hb; clear hb; have HL := Lib.hid hl; clear hl; have Hlen := Lib.hid hlen; clear hlen; clear hv
 go_enter Tryz.func97, Tryz.ntmps97
 go_wp2_with fail
 go_loopw [8] (fun i wr => ∃ j : Nat, j ≤ l.length ∧ i = .int .i64 j ∧ IsW W.heap.size b (l0 ++ txtL (l.take j)) wr ∧ Below W.heap.size w wr ∧ Kq b w wr) (fun i _ => l.length - (RowKit.intOf i).toNat)
 case atStart => exact ⟨0, by omega, rfl, by simpa [txtL] using H.out, Below.refl _ _, Kq.refl _ _⟩
 case round =>
  obtain ⟨j, hj, rfl, h1, hx, hq⟩ := hrel; have H1 := Lib.hid h1; clear h1
  by_cases hlt : j < l.length
  ·obtain ⟨B, off, sv, rfl, g0, g1, g2, g3, hsv, hns⟩ := HA.out j hlt; have hBW : B < W.heap.size := Hp.lt (Hp.le_refl _) g0; obtain ⟨a2, k2, rfl, _⟩ := tms_at hsv; have cell : ∀ o v, Hp.of W B o = some v -> wr.cell? ⟨B, o, none⟩ = some v := fun o v hv => ((HB.out.trans hx).cell (p := ⟨B, o, none⟩) hBW).trans hv; have c0 := cell _ _ g0; have c1 := cell _ _ g1; have c2 := cell _ _ g2; have c3 := cell _ _ g3; clear cell g0 g1 g2 g3; have Hsv := Lib.hid hsv; clear hsv; have htk := txtL_take hlt; have hle := txtL_le l (j + 1); have Htk := Lib.hid htk; clear htk; have Hle := Lib.hid hle; clear hle; have hwz := hx.size; have hWz := HB.out.size
   go_wp2_with fail
   refine (HL.out l[j] (List.getElem_mem hlt) _ Hsv.out b _ _ (isW_below H1.out ((Below.refl _ wr).alloc (Nat.le_refl _) _)) ((HB.out.trans hx).alloc (by omega) _) (by have h1 := Hle.out; have h2 := Hlen.out; rw [Htk.out] at h1; simp only [List.length_append] at h1 ⊢; omega)).mono ?_
   rintro e w2 ⟨rfl, h2, hx2, hq2⟩
   go_wp2_with fail
   go_roundw
   case rel => exact ⟨j + 1, by omega, by go_num, by rw [Htk.out, ← List.append_assoc]; exact h2, (hx.alloc (by omega) _).trans hx2, (hq.trans (Kq.below ((Below.refl _ wr).alloc (Nat.le_refl _) _))).trans hq2⟩
   case measure => simp [RowKit.intOf]; omega
  ·have he : l.take j = l := List.take_of_length_le (by omega)
   have Hd := Lib.hid he; clear he
   go_wp2_with fail
   go_end0
   exact ⟨rfl, by have := H1.out; rw [Hd.out] at this; exact this, hx, hq⟩
open Go.AM in
set_option maxHeartbeats 4000000 in
set_option maxRecDepth 100000 in
theorem term_w {W : World} (hT : Tb W) (t : Tm) (hio : t.io) : TermW W t := by
 induction t using Tm.ind_all with
 | h k n s l ih =>
  intro sv hv b l0 w h hb hlen; simp only [Tm.args, Tm.kind, Tm.num, Tm.name] at hv ⊢; rw [Tm.io] at hio; obtain ⟨hk, hn, hio⟩ := hio; have hl : ∀ t ∈ l, TermW W t := fun t ht => ih t ht (Tm.ios_mem.1 hio t ht); obtain ⟨a, kk, rfl, _⟩ := tms_at hv
  have hll : l.length ≤ lim := by
   obtain ⟨_, _, _, _, _, _, _, _, h1, _⟩ := hv.inv_sl; simpa using h1
  unfold lim at hll; have hWz := hb.size; have hw1 := isW_below h ((Below.refl _ w).alloc (Nat.le_refl _) (.cells #[.int .i64 k, .int .i64 n, .string s, .slice a l.length kk] 81)); have hx1 : Below W.heap.size w (w.alloc (.cells #[.int .i64 k, .int .i64 n, .string s, .slice a l.length kk] 81)) := (Below.refl _ w).alloc hWz _; have hq1 : Kq b w (w.alloc (.cells #[.int .i64 k, .int .i64 n, .string s, .slice a l.length kk] 81)) := Kq.below ((Below.refl _ w).alloc (Nat.le_refl _) _); obtain ⟨w1, hw⟩ : ∃ w1, w1 = w.alloc (.cells #[.int .i64 k, .int .i64 n, .string s, .slice a l.length kk] 81) := ⟨_, rfl⟩; rw [← hw] at hw1 hx1 hq1; have hbx : w1.heap[w.heap.size]? = some (.cells #[.int .i64 k, .int .i64 n, .string s, .slice a l.length kk] 81 (0, 0)) := by rw [hw]; exact World.alloc_heap_new w _
  have hblt : b < w.heap.size := by
   rcases h with h | h <;> (obtain ⟨_, v, hv, _⟩ := h; exact lt_heap hv)
  have hkeep : ∀ w', Kq b w1 w' -> w'.cell? ⟨w.heap.size, 0, none⟩ = some (.int .i64 k) ∧ w'.cell? ⟨w.heap.size, 1, none⟩ = some (.int .i64 n) ∧ w'.cell? ⟨w.heap.size, 2, none⟩ = some (.string s) ∧ w'.cell? ⟨w.heap.size, 3, none⟩ = some (.slice a l.length kk) := fun w' hq => by
   have := (hq.keep w.heap.size (lt_heap hbx) (by omega) (fun cs fz e => by rw [hbx] at e; cases e)).trans hbx
   simp [World.cell?, this]
  have hsz : w1.heap.size = w.heap.size + 1 := by rw [hw]; simp
  have hTb : ∀ w', Below W.heap.size w w' -> Tb w' := fun w' hx => hT.below hT.lt (hb.trans hx); have HK := Lib.hid hkeep; clear hkeep; have HT := Lib.hid hTb; clear hTb; have HL := Lib.hid hl; clear hl; have HV := Lib.hid hv; clear hv; have HB := Lib.hid hb; clear hb; have H1 := Lib.hid hw1; clear hw1; obtain ⟨c0, c1, c2, c3⟩ := HK.out w1 (Kq.refl _ _); clear h ih hio; have hW1 := hx1.size
  by_cases hk0 : k = 0
  ·subst hk0; have et : txtT (.mk 0 n s l) = numT 105 n := by simp [txtT]
   rw [et] at hlen ⊢; have Hl := Lib.hid hlen; clear hlen; have Het := Lib.hid et; clear et
   go_enter Tryz.func151, Tryz.ntmps151
   go_wp2_with fail
   rw [← hw]; refine (number_w W.heap.size b l0 105 n w1 H1.out (HT.out _ hx1) hT.lt hn.1 hn.2 (by have := Hl.out; omega) (by omega)).mono ?_
   rintro e w2 ⟨rfl, h2, hx2, hq2⟩
   go_wp2_with fail
   go_end0
   exact ⟨rfl, h2, hx1.trans hx2, hq1.trans hq2⟩
  ·by_cases hk1 : k = 1
   ·subst hk1; have et : txtT (.mk 1 n s l) = numT 118 n := by simp [txtT]
    rw [et] at hlen ⊢; have Hl := Lib.hid hlen; clear hlen; have Het := Lib.hid et; clear et
    go_enter Tryz.func151, Tryz.ntmps151
    go_wp2_with fail
    rw [← hw]; refine (number_w W.heap.size b l0 118 n w1 H1.out (HT.out _ hx1) hT.lt hn.1 hn.2 (by have := Hl.out; omega) (by omega)).mono ?_
    rintro e w2 ⟨rfl, h2, hx2, hq2⟩
    go_wp2_with fail
    go_end0
    exact ⟨rfl, h2, hx1.trans hx2, hq1.trans hq2⟩
   ·by_cases hk2 : k = 2
    ·subst hk2; have et : txtT (.mk 2 n s l) = numT 102 l.length ++ wordT s ++ txtL l := by simp [txtT]
     rw [et] at hlen ⊢; have e3 : l0 ++ (numT 102 l.length ++ wordT s ++ txtL l) = l0 ++ numT 102 l.length ++ wordT s ++ txtL l := by simp
     rw [e3]; simp only [List.length_append] at hlen; have Hl := Lib.hid hlen; clear hlen; have Het := Lib.hid et; clear et; have He3 := Lib.hid e3; clear e3
     go_enter Tryz.func151, Tryz.ntmps151
     go_wp2_with fail
     rw [← hw]; refine (number_w W.heap.size b l0 102 l.length w1 H1.out (HT.out _ hx1) hT.lt (by omega) (by omega) (by have := Hl.out; omega) (by omega)).mono ?_
     rintro e w2 ⟨rfl, h2, hx2, hq2⟩; clear c0 c1 c2 c3; obtain ⟨c0, c1, c2, c3⟩ := HK.out w2 hq2; have hz2 := hx2.size; have hx2 := hx1.trans hx2
     go_wp2_with fail
     refine (word_w W.heap.size b _ s w2 h2 (HT.out _ hx2) hT.lt (by have := Hl.out; simp only [List.length_append]; omega) (by omega)).mono ?_
     rintro e w3 ⟨rfl, h3, hx3, hq3⟩; clear c0 c1 c2 c3; obtain ⟨c0, c1, c2, c3⟩ := HK.out w3 (hq2.trans hq3); have hz3 := hx3.size; have hx3 := hx2.trans hx3
     go_wp2_with fail
     refine (terms_w HL.out HV.out b _ w3 h3 (HB.out.trans hx3) (by have := Hl.out; simp only [List.length_append]; omega)).mono ?_
     rintro e w4 ⟨rfl, h4, hx4, hq4⟩
     go_wp2_with fail
     go_end0
     exact ⟨rfl, h4, hx3.trans hx4, hq1.trans ((hq2.trans hq3).trans hq4)⟩
    ·have et : txtT (.mk k n s l) = numT 107 k ++ numT 110 n ++ wordT s := by simp [txtT, hk0, hk1, hk2]
     rw [et] at hlen ⊢; have e3 : l0 ++ (numT 107 k ++ numT 110 n ++ wordT s) = l0 ++ numT 107 k ++ numT 110 n ++ wordT s := by simp
     rw [e3]; simp only [List.length_append] at hlen; have Hl := Lib.hid hlen; clear hlen; have Het := Lib.hid et; clear et; have He3 := Lib.hid e3; clear e3
     go_enter Tryz.func151, Tryz.ntmps151
     go_wp2_with fail
     rw [← hw]; refine (number_w W.heap.size b l0 107 k w1 H1.out (HT.out _ hx1) hT.lt hk.1 hk.2 (by have := Hl.out; omega) (by omega)).mono ?_
     rintro e w2 ⟨rfl, h2, hx2, hq2⟩; clear c0 c1 c2 c3; obtain ⟨c0, c1, c2, c3⟩ := HK.out w2 hq2; have hz2 := hx2.size; have hx2 := hx1.trans hx2
     go_wp2_with fail
     refine (number_w W.heap.size b _ 110 n w2 h2 (HT.out _ hx2) hT.lt hn.1 hn.2 (by have := Hl.out; simp only [List.length_append]; omega) (by omega)).mono ?_
     rintro e w3 ⟨rfl, h3, hx3, hq3⟩; clear c0 c1 c2 c3; obtain ⟨c0, c1, c2, c3⟩ := HK.out w3 (hq2.trans hq3); have hz3 := hx3.size; have hx3 := hx2.trans hx3
     go_wp2_with fail
     refine (word_w W.heap.size b _ s w3 h3 (HT.out _ hx3) hT.lt (by have := Hl.out; simp only [List.length_append]; omega) (by omega)).mono ?_
     rintro e w4 ⟨rfl, h4, hx4, hq4⟩
     go_wp2_with fail
     go_end0
     exact ⟨rfl, h4, hx3.trans hx4, hq1.trans ((hq2.trans hq3).trans hq4)⟩
set_option maxHeartbeats 2000000 in
set_option maxRecDepth 100000 in
theorem terms_w0 (b k : Nat) (a : Option Addr) (w : World) : Calls Tryz.prog 97 #[.pointer (some ⟨b, 0, none⟩), .slice a 0 k] w fun e w' => e = .returned (.tuple #[]) ∧ w' = w := by
 go_enter Tryz.func97, Tryz.ntmps97
 go_wp2_with fail
 go_loopw [8] (fun i wr => i = .int .i64 0 ∧ wr = w) (fun i _ => 0)
 case atStart => exact ⟨rfl, rfl⟩
 case round =>
  obtain ⟨rfl, rfl⟩ := hrel
  go_wp2_with fail
  go_end0
  exact ⟨rfl, rfl⟩
open Go.AM in
set_option maxHeartbeats 2000000 in
set_option maxRecDepth 100000 in
theorem text_w {W : World} (hT : Tb W) {key : List Tm} (hio : Tm.ios key) {sv : Value} (hv : FV (Hp.of W) (slA Tm.av key) sv) (hlen : (txtL key).length ≤ 100000000) :
  Calls Tryz.prog 47 #[sv] W fun e w' => e = .returned (.string ⟨(txtL key).toArray⟩) ∧ Below W.heap.size W w' := by
 have hbx := World.alloc_heap_new W (.cells #[.pointer none, .slice none 0 0] 162); have hx1 : Below W.heap.size W (W.alloc (.cells #[.pointer none, .slice none 0 0] 162)) := (Below.refl _ W).alloc (Nat.le_refl _) _; obtain ⟨w1, hw⟩ : ∃ w1, w1 = W.alloc (.cells #[.pointer none, .slice none 0 0] 162) := ⟨_, rfl⟩; rw [← hw] at hbx hx1; have hW1 := hx1.size; obtain ⟨a, k, rfl, _⟩ := tms_at hv; have hw1 : IsW W.heap.size W.heap.size [] w1 := .inl ⟨Nat.le_refl _, .slice none 0 0, hbx, World.ownsRow_nil _ _ _ _, by simp [Value.ownBlock]⟩
 by_cases hk : key = []
 ·subst hk; have Hx := Lib.hid hbx; clear hbx; clear hv
  go_enter Tryz.func47, Tryz.ntmps47
  go_wp2_with fail
  rw [← hw]; have Hw := Lib.hid hw; clear hw; refine (terms_w0 W.heap.size k a w1).mono ?_; rintro e w2 ⟨rfl, rfl⟩
  go_wp2_with fail
  refine (string_w0 W.heap.size W.heap.size _ _ Hx.out).mono ?_; rintro e w3 ⟨rfl, hx3⟩
  go_wp2_with fail
  go_ret
  exact ⟨rfl, hx1.trans hx3⟩
 ·have hne : txtL key ≠ [] := by
   cases key with
   | nil => exact absurd rfl hk
   | cons t l =>
    obtain ⟨k', n', s', l'⟩ := t; simp only [txtL, txtT]; split
    ·simp [numT]
    ·split
     ·simp [numT]
     ·split <;> simp [numT]
  have Hv := Lib.hid hv; clear hv; have Hne := Lib.hid hne; clear hne; have Hl := Lib.hid hlen; clear hlen; have Hio := Lib.hid hio; clear hio
  go_enter Tryz.func47, Tryz.ntmps47
  go_wp2_with fail
  rw [← hw]; have Hw := Lib.hid hw; clear hw; refine (terms_w (fun t ht => term_w hT t (Tm.ios_mem.1 Hio.out t ht)) Hv.out W.heap.size [] w1 hw1 hx1 (by simpa using Hl.out)).mono ?_
  rintro e w2 ⟨rfl, h2, hx2, hq2⟩; rw [List.nil_append] at h2
  go_wp2_with fail
  refine (string_w W.heap.size W.heap.size _ _ h2 Hne.out).mono ?_; rintro e w3 ⟨rfl, hx3⟩
  go_wp2_with fail
  go_ret
  exact ⟨rfl, (hx1.trans hx2).trans hx3⟩
end Go.CK
namespace Go.CK
open Go.AM Go.Proofs
variable {vals : List AV} {bs : List Box} {Q : AV -> List Box -> Prop}
def rc_index_own : RC :=
 (.seq
 (.reg false [1, 2] [
 oQ 1 (.box (.t 0)), oQ 2 (.box (.c (.agg [(.int .i64 0), (.str ⟨⟨[]⟩⟩), (.sl .full [])])))])
 (.seq
 (.reg false [1, 2] [
 qF 3 1 1, qF 4 1 3, qL 5 4, oQ 6 (.build [(.int .i64 0), (.int .i64 0), (.str ⟨⟨[]⟩⟩), (.sl .full [])] [(3, 1, (.t 5))]), oQ 7 (.call (.c (.fn (.func 96) [] [])) [(.t 6)]), oQ 8 (.fld false 3 1 (.t 7)), qF 9 1 1, qF 10 1 9, oN (.store 1 (.t 10) (.t 8))])
 (.seq
 (.reg false [2] [
 qA 11 3 1, oN (.store 3 (.t 2) (.t 11))])
 .ret)))
theorem op_index_own (hn : vals.length ≤ 12) (h : SP Tryz.prog true vals bs rc_index_own [.cell 2 true 3] Q) : AM.Sem Tryz.prog 45 vals bs Q :=
 Sem.nrm (Sem.of (fn := Tryz.f45) (keeps := [(0, [1, 2]), (1, [1, 2]), (2, [2])]) (solo := []) Tryz.func45 rfl (by kernel_rfl) (by kernel_rfl) (by kernel_rfl) hn (run_gp h))
def rc_index_copied : RC :=
 (.seq
 (.reg false [1, 2] [
 oQ 1 (.box (.t 0)), oQ 2 (.box (.c (.agg [(.int .i64 0), (.int .i64 0), (.str ⟨⟨[]⟩⟩), (.sl .full [])])))])
 (.seq
 (.reg false [1, 2] [
 qF 5 3 1, qL 6 5, oQ 7 (.call (.c (.fn (.func 150) [] [])) [(.t 6)]), qF 8 3 1, oN (.store 1 (.t 8) (.t 7))])
 (.seq
 (.seq
 (.reg false [1, 2, 10, 11, 12] [
 qF 9 3 1, qL 10 9, oQ 11 (.len false (.t 10)), oQ 12 (.mov (.c (.int .i64 0)))])
 (.block 0
 (.loop
 (.seq
 (.reg false [1, 2, 10, 11, 12, 13] [
 oQ 13 (.bin .lss (.t 12) (.t 11))])
 (.seq
 (.cond (.t 13)
 .skip
 (.exit 0))
 (.seq
 (.block 1
 (.seq
 (.reg false [1, 2, 3, 4, 10, 11, 12] [
 qM 14 12, qI 15 4 10 12, qA 16 4 15, oQ 4 (.box (.c (.agg [(.int .i64 0), (.int .i64 0), (.str ⟨⟨[]⟩⟩), (.sl .full [])]))), qM 3 14, oN (.store 4 (.t 4) (.t 16))])
 (.mult [1, 2, 10, 11, 12] [
 (0, qF 17 3 1), (0, qL 18 17), (0, qM 19 3), (0, qA 20 4 4), (0, oQ 21 (.call (.c (.fn (.func 96) [] [])) [(.t 20)])), (0, qI 22 4 18 19), (1, oN (.store 4 (.t 22) (.t 21)))])))
 (.reg false [1, 2, 10, 11, 12] [
 oQ 23 (.bin .add (.t 12) (.c (.int .i64 1))), qM 12 23])))))))
 (.seq
 (.reg false [2] [
 qA 24 4 1, oN (.store 4 (.t 2) (.t 24))])
 .ret))))
theorem op_index_copied (hn : vals.length ≤ 25) (h : SP Tryz.prog true vals bs rc_index_copied [.cell 2 true 4] Q) : AM.Sem Tryz.prog 96 vals bs Q :=
 Sem.nrm (Sem.of (fn := Tryz.f96) (keeps := [(0, [1, 2]), (1, [1, 2]), (2, [1, 2, 10, 11, 12]), (3, [1, 2, 10, 11, 12, 13]), (4, [1, 2, 3, 4, 10, 11, 12]), (5, [1, 2, 10, 11, 12]), (6, [1, 2, 10, 11, 12]), (7, [2]), (2000005, [0, 1, 2, 3, 4, 5, 6]), (3000005, [0, 0, 0, 0, 0, 0, 1])]) (solo := []) Tryz.func96 rfl (by kernel_rfl) (by kernel_rfl) (by kernel_rfl) hn (run_gp h))
def rc_p_index_Index_keys : RC :=
 (.seq
 (.reg false [2, 3] [
 oQ 2 (.box (.t 0)), oQ 3 (.box (.t 1)), oQ 4 (.mov (.c .nfn))])
 (.seq
 (.reg false [4] [
 oQ 5 (.mkfn (.func 108) [] [(.t 2), (.t 3)]), qM 4 5])
 .ret))
def rc_p_index_Index_keys_1 : RC :=
 (.seq
 (.reg false [0, 2, 12, 13, 14] [
 qL 9 1, qK 10 9, qF 11 0 10, qL 12 11, oQ 13 (.len false (.t 12)), oQ 14 (.mov (.c (.int .i64 0)))])
 (.block 0
 (.loop
 (.seq
 (.reg false [0, 2, 12, 13, 14, 15] [
 oQ 15 (.bin .lss (.t 14) (.t 13))])
 (.seq
 (.cond (.t 15)
 .skip
 (.exit 0))
 (.seq
 (.block 1
 (.seq
 (.reg false [0, 2, 4, 5, 12, 13, 14] [
 qM 16 14, qI 17 3 12 14, qA 18 3 17, oQ 5 (.box (.c (.agg [(.str ⟨⟨[]⟩⟩), (.int .i64 0), (.sl .full [])]))), qM 4 16, oN (.store 3 (.t 5) (.t 18))])
 (.seq
 (.seq
 (.reg false [0, 2, 4, 5, 12, 13, 14, 31] [
 qF 19 0 5, qL 20 19, qF 21 0 2, qL 22 21, oQ 23 (.bin .neq (.t 20) (.t 22)), qM 24 23, oG 25 24 false (.fptr 1 (.t 5)), oG 26 24 false (.load false 1 (.t 25)), oG 27 24 false (.fptr 1 (.t 2)), oG 28 24 false (.load false 1 (.t 27)), oG 29 24 false (.len false (.t 28)), oG 30 24 false (.bin .neq (.t 26) (.t 29)), oQ 31 (.pick (.t 24) (.c (.bool true)) (.t 30))])
 (.cond (.t 31)
 (.exit 1)
 .skip))
 (.seq
 (.reg false [0, 2, 4, 5, 6, 12, 13, 14] [
 oQ 6 (.mov (.c (.sl .full [])))])
 (.seq
 (.seq
 (.reg false [0, 2, 4, 6, 12, 13, 14, 33, 34, 35] [
 qF 32 2 5, qL 33 32, oQ 34 (.len false (.t 33)), oQ 35 (.mov (.c (.int .i64 0)))])
 (.block 2
 (.loop
 (.seq
 (.reg false [0, 2, 4, 6, 12, 13, 14, 33, 34, 35, 36] [
 oQ 36 (.bin .lss (.t 35) (.t 34))])
 (.seq
 (.cond (.t 36)
 .skip
 (.exit 2))
 (.seq
 (.block 3
 (.seq
 (.reg false [0, 2, 4, 6, 8, 12, 13, 14, 33, 34, 35] [
 qI 37 1 33 35, qL 38 37, qM 8 38])
 (.reg false [0, 2, 4, 6, 12, 13, 14, 33, 34, 35] [
 qM 39 6, qF 40 1 2, qL 41 40, qM 42 8, qI 43 4 41 42, qA 44 4 43, oQ 45 (.bslice 4 [(.t 44)]), oQ 46 (.append 4 (.t 39) (.t 45)), qM 6 46])))
 (.reg false [0, 2, 4, 6, 12, 13, 14, 33, 34, 35] [
 oQ 47 (.bin .add (.t 35) (.c (.int .i64 1))), qM 35 47])))))))
 (.seq
 (.reg false [0, 2, 12, 13, 14, 53] [
 qM 48 0, qM 49 4, qM 50 6, oQ 51 (.call (.c (.fn (.func 47) [] [])) [(.t 50)]), oQ 52 (.callv (.t 48) [(.t 49), (.t 51)]), oQ 53 (.un .not (.t 52))])
 (.cond (.t 53)
 .ret
 .skip)))))))
 (.reg false [0, 2, 12, 13, 14] [
 oQ 54 (.bin .add (.t 14) (.c (.int .i64 1))), qM 14 54])))))))
def rc_p_index_Index_enter : RC :=
 (.seq
 (.reg false [2, 3] [
 oQ 2 (.box (.t 0)), oQ 3 (.box (.t 1))])
 (.seq
 (.reg false [2, 3, 12] [
 qL 9 2, qF 10 1 3, qA 11 2 10, oQ 12 (.call (.c (.fn (.func 53) [] [])) [(.t 9), (.t 11)])])
 (.block 0
 (.range (.t 12) [13, 14]
 (.seq
 (.reg false [2, 3, 4, 14] [
 qM 4 13])
 (.reg false [2, 3, 4, 5] [
 qM 5 14]))
 (.block 1
 (.seq
 (.reg false [2, 3, 4, 5, 6] [
 qL 15 2, qK 16 15, qF 17 2 16, qL 18 17, qM 19 4, qI 20 1 18 19, qL 21 20, qM 22 5, oQ 23 (.eff (.tab .get) [(.t 21), (.t 22)]), qM 6 23])
 (.seq
 (.reg false [2, 3, 4, 5, 6, 7] [
 qM 25 6, qF 26 0 3, qL 27 26, oQ 28 (.call (.c (.fn (.func 105) [] [])) [(.t 25), (.t 27)]), qM 24 28, oQ 29 (.ext 0 (.t 24)), oQ 30 (.ext 1 (.t 24)), qM 7 29, qM 8 30])
 (.mult [] [
 (0, qL 31 2), (0, qK 32 31), (0, qF 33 2 32), (0, qL 34 33), (0, qM 35 4), (0, qI 36 1 34 35), (0, qL 37 36), (0, qM 38 5), (0, qM 39 6), (0, qM 40 7), (0, qF 41 0 3), (0, qL 42 41), (2, oQ 43 (.eff (.bsR 1) [(.t 42)])), (2, oQ 44 (.call (.c (.fn (.func 106) [] [])) [(.t 39), (.t 40), (.t 43)])), (1, oN (.eff (.tab .put) [(.t 37), (.t 38), (.t 44)]))]))))))))
def rc_p_index_Index_find : RC :=
 (.seq
 (.reg false [0, 1] [
 oQ 4 (.mov (.c (.int .i64 0))), oQ 5 (.mov (.c (.bool false)))])
 (.seq
 (.reg false [4, 5] [
 qM 6 0, qK 7 6, qF 8 1 7, qL 9 8, qM 10 1, oQ 11 (.call (.c (.fn (.func 99) [] [])) [(.t 9), (.t 10), (.c (.fn (.func 100) [] []))]), oQ 12 (.ext 0 (.t 11)), oQ 13 (.ext 1 (.t 11)), qM 4 12, qM 5 13])
 .ret))
def rc_p_index_Index_find_1 : RC :=
 (.seq
 (.reg false [1, 2] [
 oQ 2 (.box (.t 0)), oQ 4 (.mov (.c (.int .i64 0)))])
 (.seq
 (.reg false [4] [
 qF 5 0 2, qL 6 5, qM 7 1, oQ 8 (.call (.c (.fn (.func 101) [] [])) [(.t 6), (.t 7)]), qM 4 8])
 .ret))
theorem op_p_index_Index_find_1 (hn : vals.length ≤ 9) (h : SP Tryz.prog true vals bs rc_p_index_Index_find_1 [.slot 4] Q) : AM.Sem Tryz.prog 100 vals bs Q :=
 Sem.nrm (Sem.of (fn := Tryz.f100) (keeps := [(0, [1, 2]), (1, [4])]) (solo := []) Tryz.func100 rfl (by kernel_rfl) (by kernel_rfl) (by kernel_rfl) hn (run_gp h))
def rc_p_index_Index_Insert : RC :=
 (.seq
 (.reg false [0, 3] [
 oQ 3 (.box (.t 1)), oQ 4 (.mov (.c (.int .i64 0)))])
 (.seq
 (.seq
 (.reg false [0, 3, 8] [
 qM 7 0, oQ 8 (.more (.eqP false) [(.t 7), (.c .nptr)])])
 (.cond (.t 8)
 (.seq
 (.reg false [4] [
 oQ 4 (.mov (.c (.int .i64 1)))])
 .ret)
 .skip))
 (.seq
 (.reg false [0, 3, 5, 6] [
 qM 10 0, qF 11 0 3, qL 12 11, oQ 13 (.call (.c (.fn (.func 48) [] [])) [(.t 10), (.t 12)]), qM 9 13, oQ 14 (.ext 0 (.t 9)), oQ 15 (.ext 1 (.t 9)), qM 5 14, qM 6 15])
 (.seq
 (.block 0
 (.seq
 (.reg false [0, 3, 5, 6, 16] [
 qF 17 0 3, qL 18 17, oQ 19 (.bin .lss (.t 18) (.c (.int .i64 1))), qM 20 19, oG 21 20 false (.fptr 1 (.t 3)), oG 22 20 false (.load true 2 (.t 21)), oG 23 20 false (.call (.c (.fn (.func 49) [] [])) [(.t 22)]), oG 24 20 false (.un .not (.t 23)), oQ 25 (.pick (.t 20) (.c (.bool true)) (.t 24)), qM 16 25])
 (.cond (.t 16)
 (.seq
 (.reg false [4] [
 oQ 4 (.mov (.c (.int .i64 2)))])
 .ret)
 (.seq
 (.reg false [0, 3, 5, 26] [
 qM 27 6, qM 26 27])
 (.cond (.t 26)
 (.seq
 (.reg false [4] [
 oQ 4 (.mov (.c (.int .i64 8)))])
 .ret)
 (.seq
 (.reg false [0, 3, 5, 28] [
 qM 29 0, qK 30 29, qF 31 1 30, qL 32 31, oQ 33 (.len false (.t 32)), oQ 34 (.bin .geq (.t 33) (.c (.int .i64 500))), qM 28 34])
 (.cond (.t 28)
 (.seq
 (.reg false [4] [
 oQ 4 (.mov (.c (.int .i64 6)))])
 .ret)
 .skip)))))))
 (.seq
 (.reg false [0, 3, 5] [
 qA 35 3 3, oQ 36 (.call (.c (.fn (.func 45) [] [])) [(.t 35)]), oN (.store 3 (.t 3) (.t 36))])
 (.seq
 (.mult [0, 3] [
 (0, qM 37 0), (0, qM 38 0), (0, qK 39 38), (0, qF 40 1 39), (0, qL 41 40), (0, qM 42 5), (0, qA 43 3 3), (2, oQ 44 (.eff (.bsR 3) [(.t 43)])), (2, oQ 45 (.call (.c (.fn (.func 50) [] [])) [(.t 41), (.t 42), (.t 44)])), (0, qK 46 37), (0, qF 47 1 46), (1, oN (.store 1 (.t 47) (.t 45)))])
 (.seq
 (.reg false [] [
 qM 48 0, qA 49 3 3, oQ 50 (.call (.c (.fn (.func 51) [] [])) [(.t 48), (.t 49)])])
 (.seq
 (.reg false [4] [
 oQ 4 (.mov (.c (.int .i64 0)))])
 .ret))))))))
def rc_p_index_Index_Delete : RC :=
 (.seq
 (.reg false [2, 3, 4] [
 oQ 2 (.box (.t 0)), oQ 3 (.box (.t 1)), oQ 4 (.mov (.c (.bool false)))])
 (.seq
 (.seq
 (.reg false [2, 3, 4, 11] [
 qL 10 2, oQ 11 (.more (.eqP false) [(.t 10), (.c .nptr)])])
 (.cond (.t 11)
 (.seq
 (.reg false [4] [
 oQ 4 (.mov (.c (.bool false)))])
 .ret)
 .skip))
 (.seq
 (.reg false [2, 3, 4, 5, 6] [
 qL 13 2, qL 14 3, oQ 15 (.call (.c (.fn (.func 48) [] [])) [(.t 13), (.t 14)]), qM 12 15, oQ 16 (.ext 0 (.t 12)), oQ 17 (.ext 1 (.t 12)), qM 5 16, qM 6 17])
 (.seq
 (.seq
 (.reg false [2, 3, 4, 5, 19] [
 qM 18 6, oQ 19 (.un .not (.t 18))])
 (.cond (.t 19)
 (.seq
 (.reg false [4] [
 oQ 4 (.mov (.c (.bool false)))])
 .ret)
 .skip))
 (.seq
 (.seq
 (.mult [2, 3, 4, 5, 29] [
 (0, qL 20 2), (0, qL 21 2), (0, qK 22 21), (0, qF 23 1 22), (0, qL 24 23), (0, qM 25 5), (0, qI 26 3 24 25), (0, qF 27 1 26), (0, qA 28 2 27), (1, oQ 29 (.call (.c (.fn (.func 53) [] [])) [(.t 20), (.t 28)]))])
 (.block 0
 (.range (.t 29) [30, 31]
 (.seq
 (.reg false [2, 3, 7, 31] [
 qM 7 30])
 (.reg false [2, 3, 7, 8] [
 qM 8 31]))
 (.block 1
 (.seq
 (.reg false [2, 7, 8, 9] [
 qL 32 2, qK 33 32, qF 34 2 33, qL 35 34, qM 36 7, qI 37 1 35 36, qL 38 37, qM 39 8, oQ 40 (.eff (.tab .get) [(.t 38), (.t 39)]), oQ 41 (.mkfn (.func 55) [] [(.t 3)]), oQ 42 (.call (.c (.fn (.func 54) [] [])) [(.t 40), (.t 41)]), qM 9 42])
 (.seq
 (.reg false [2, 7, 8, 9, 45] [
 qM 43 9, oQ 44 (.len false (.t 43)), oQ 45 (.bin .eql (.t 44) (.c (.int .i64 0)))])
 (.cond (.t 45)
 (.reg false [] [
 qL 46 2, qK 47 46, qF 48 2 47, qL 49 48, qM 50 7, qI 51 1 49 50, qL 52 51, qM 53 8, oN (.eff (.tab .del) [(.t 52), (.t 53)])])
 (.reg false [] [
 qL 54 2, qK 55 54, qF 56 2 55, qL 57 56, qM 58 7, qI 59 1 57 58, qL 60 59, qM 61 8, qM 62 9, oN (.eff (.tab .put) [(.t 60), (.t 61), (.t 62)])]))))))))
 (.seq
 (.mult [] [
 (0, qL 63 2), (0, qL 64 2), (0, qK 65 64), (0, qF 66 1 65), (0, qL 67 66), (0, qM 68 5), (0, qM 69 5), (0, oQ 70 (.bin .add (.t 69) (.c (.int .i64 1)))), (2, oQ 71 (.call (.c (.fn (.func 56) [] [])) [(.t 67), (.t 68), (.t 70)])), (0, qK 72 63), (0, qF 73 1 72), (1, oN (.store 1 (.t 73) (.t 71)))])
 (.seq
 (.reg false [4] [
 oQ 4 (.mov (.c (.bool true)))])
 .ret)))))))
def rc_p_index_Index_Find : RC :=
 (.seq
 (.reg false [0, 1, 2] [
 oQ 6 (.mov (.c (.sl .full [])))])
 (.seq
 (.seq
 (.reg false [0, 1, 2, 35] [
 qM 7 0, oQ 8 (.more (.eqP false) [(.t 7), (.c .nptr)]), qM 9 8, oG 10 9 false (.mov (.t 1)), oG 11 9 false (.bin .lss (.t 10) (.c (.int .i64 0))), oQ 12 (.pick (.t 9) (.c (.bool true)) (.t 11)), qM 13 12, oG 14 13 false (.mov (.t 1)), oG 15 13 false (.mov (.t 0)), oG 16 13 false (.nilck (.t 15)), oG 17 13 false (.fptr 0 (.t 16)), oG 18 13 false (.load false 1 (.t 17)), oG 19 13 false (.len false (.t 18)), oG 20 13 false (.bin .geq (.t 14) (.t 19)), oQ 21 (.pick (.t 13) (.c (.bool true)) (.t 20)), qM 22 21, oG 23 22 false (.mov (.t 2)), oG 24 22 false (.len false (.t 23)), oG 25 22 false (.mov (.t 0)), oG 26 22 false (.nilck (.t 25)), oG 27 22 false (.fptr 0 (.t 26)), oG 28 22 false (.load false 1 (.t 27)), oG 29 22 false (.mov (.t 1)), oG 30 22 false (.idx 3 (.t 28) (.t 29)), oG 31 22 false (.fptr 2 (.t 30)), oG 32 22 false (.load false 1 (.t 31)), oG 33 22 false (.len false (.t 32)), oG 34 22 false (.bin .neq (.t 24) (.t 33)), oQ 35 (.pick (.t 22) (.c (.bool true)) (.t 34))])
 (.cond (.t 35)
 (.seq
 (.reg false [6] [
 oQ 6 (.mov (.c (.sl .full [])))])
 .ret)
 .skip))
 (.seq
 (.mult [6] [
 (0, qM 36 0), (0, qK 37 36), (0, qF 38 2 37), (0, qL 39 38), (0, qM 40 1), (0, qI 41 1 39 40), (0, qL 42 41), (0, qM 43 2), (0, oQ 44 (.call (.c (.fn (.func 47) [] [])) [(.t 43)])), (1, oQ 45 (.eff (.tab .get) [(.t 42), (.t 44)])), (1, oQ 46 (.call (.c (.fn (.func 44) [] [])) [(.t 45)])), (0, oQ 6 (.take 46))])
 .ret)))
def rc_p_index_Index_Items : RC :=
 (.seq
 (.reg false [0] [
 oQ 2 (.mov (.c (.sl .full [])))])
 (.seq
 (.seq
 (.reg false [0, 7] [
 qM 6 0, oQ 7 (.more (.eqP false) [(.t 6), (.c .nptr)])])
 (.cond (.t 7)
 (.seq
 (.reg false [2] [
 oQ 2 (.mov (.c (.sl .full [])))])
 .ret)
 .skip))
 (.seq
 (.reg false [0, 3] [
 oQ 3 (.mov (.c (.sl .full [])))])
 (.seq
 (.seq
 (.reg false [3, 11, 12, 13] [
 qM 8 0, qK 9 8, qF 10 1 9, qL 11 10, oQ 12 (.len false (.t 11)), oQ 13 (.mov (.c (.int .i64 0)))])
 (.block 0
 (.loop
 (.seq
 (.reg false [3, 11, 12, 13, 14] [
 oQ 14 (.bin .lss (.t 13) (.t 12))])
 (.seq
 (.cond (.t 14)
 .skip
 (.exit 0))
 (.seq
 (.block 1
 (.seq
 (.reg false [3, 5, 11, 12, 13] [
 qI 15 3 11 13, qA 16 3 15, oQ 5 (.box (.c (.agg [(.int .i64 0), (.str ⟨⟨[]⟩⟩), (.sl .full [])]))), oN (.store 3 (.t 5) (.t 16))])
 (.reg false [3, 11, 12, 13] [
 qM 17 3, qA 18 3 5, oQ 19 (.call (.c (.fn (.func 45) [] [])) [(.t 18)]), oQ 20 (.bslice 3 [(.t 19)]), oQ 21 (.append 3 (.t 17) (.t 20)), qM 3 21])))
 (.reg false [3, 11, 12, 13] [
 oQ 22 (.bin .add (.t 13) (.c (.int .i64 1))), qM 13 22])))))))
 (.seq
 (.reg false [2] [
 qM 23 3, qM 2 23])
 .ret)))))
def rc_slices_BinarySearchFunc_api_Item_api_Item_int : RC :=
 (.seq
 (.reg false [0, 1, 2] [
 oQ 6 (.mov (.c (.int .i64 0))), oQ 7 (.mov (.c (.bool false)))])
 (.seq
 (.reg false [0, 1, 2, 8] [
 qM 12 0, oQ 13 (.len false (.t 12)), qM 8 13])
 (.seq
 (.reg false [0, 1, 2, 8, 9, 10] [
 qM 14 8, oQ 9 (.mov (.c (.int .i64 0))), qM 10 14])
 (.seq
 (.block 0
 (.loop
 (.seq
 (.seq
 (.reg false [0, 1, 2, 8, 9, 10, 17] [
 qM 15 9, qM 16 10, oQ 17 (.bin .lss (.t 15) (.t 16))])
 (.cond (.t 17)
 .skip
 (.exit 0)))
 (.block 1
 (.seq
 (.reg false [0, 1, 2, 8, 9, 10, 11] [
 qM 18 9, qM 19 10, oQ 20 (.bin .add (.t 18) (.t 19)), oQ 21 (.conv (some .u64) (.t 20)), oQ 22 (.bin .shr (.t 21) (.c (.int .u64 1))), oQ 23 (.conv (some .i64) (.t 22)), qM 11 23])
 (.seq
 (.reg false [0, 1, 2, 8, 9, 10, 11, 31] [
 qM 24 2, qM 25 0, qM 26 11, qI 27 3 25 26, qA 28 3 27, qM 29 1, oQ 30 (.callv (.t 24) [(.t 28), (.t 29)]), oQ 31 (.bin .lss (.t 30) (.c (.int .i64 0)))])
 (.cond (.t 31)
 (.reg false [0, 1, 2, 8, 9, 10] [
 qM 32 11, oQ 33 (.bin .add (.t 32) (.c (.int .i64 1))), qM 9 33])
 (.reg false [0, 1, 2, 8, 9, 10] [
 qM 34 11, qM 10 34]))))))))
 (.seq
 (.reg false [6, 7] [
 qM 35 9, qM 36 9, qM 37 8, oQ 38 (.bin .lss (.t 36) (.t 37)), qM 39 38, oG 40 39 true (.mov (.t 2)), oG 41 39 true (.mov (.t 0)), oG 42 39 true (.mov (.t 9)), oG 43 39 true (.idx 3 (.t 41) (.t 42)), oG 44 39 true (.load true 3 (.t 43)), oG 45 39 true (.mov (.t 1)), oG 46 39 true (.callv (.t 40) [(.t 44), (.t 45)]), oG 47 39 true (.bin .eql (.t 46) (.c (.int .i64 0))), oQ 48 (.pick (.t 39) (.t 47) (.c (.bool false))), qM 6 35, qM 7 48])
 .ret)))))
def rc_slices_BinarySearch_int_int : RC :=
 (.seq
 (.reg false [0, 1] [
 oQ 4 (.mov (.c (.int .i64 0))), oQ 5 (.mov (.c (.bool false)))])
 (.seq
 (.reg false [0, 1, 6] [
 qM 10 0, oQ 11 (.len false (.t 10)), qM 6 11])
 (.seq
 (.reg false [0, 1, 6, 7, 8] [
 qM 12 6, oQ 7 (.mov (.c (.int .i64 0))), qM 8 12])
 (.seq
 (.block 0
 (.loop
 (.seq
 (.seq
 (.reg false [0, 1, 6, 7, 8, 15] [
 qM 13 7, qM 14 8, oQ 15 (.bin .lss (.t 13) (.t 14))])
 (.cond (.t 15)
 .skip
 (.exit 0)))
 (.block 1
 (.seq
 (.reg false [0, 1, 6, 7, 8, 9] [
 qM 16 7, qM 17 8, oQ 18 (.bin .add (.t 16) (.t 17)), oQ 19 (.conv (some .u64) (.t 18)), oQ 20 (.bin .shr (.t 19) (.c (.int .u64 1))), oQ 21 (.conv (some .i64) (.t 20)), qM 9 21])
 (.seq
 (.reg false [0, 1, 6, 7, 8, 9, 27] [
 qM 22 0, qM 23 9, qI 24 1 22 23, qL 25 24, qM 26 1, oQ 27 (.call (.c (.fn (.func 155) [] [])) [(.t 25), (.t 26)])])
 (.cond (.t 27)
 (.reg false [0, 1, 6, 7, 8] [
 qM 28 9, oQ 29 (.bin .add (.t 28) (.c (.int .i64 1))), qM 7 29])
 (.reg false [0, 1, 6, 7, 8] [
 qM 30 9, qM 8 30]))))))))
 (.seq
 (.reg false [4, 5] [
 qM 31 7, qM 32 7, qM 33 6, oQ 34 (.bin .lss (.t 32) (.t 33)), qM 35 34, oG 36 35 true (.mov (.t 0)), oG 37 35 true (.mov (.t 7)), oG 38 35 true (.idx 1 (.t 36) (.t 37)), oG 39 35 true (.load false 1 (.t 38)), oG 40 35 true (.mov (.t 1)), oG 41 35 true (.bin .eql (.t 39) (.t 40)), oG 42 35 true (.mov (.t 41)), oG 43 42 false (.mov (.t 0)), oG 44 42 false (.mov (.t 7)), oG 45 42 false (.idx 1 (.t 43) (.t 44)), oG 46 42 false (.load false 1 (.t 45)), oG 47 42 false (.call (.c (.fn (.func 156) [] [])) [(.t 46)]), oG 48 42 false (.mov (.t 47)), oG 49 48 true (.mov (.t 1)), oG 50 48 true (.call (.c (.fn (.func 156) [] [])) [(.t 49)]), oG 51 42 false (.pick (.t 48) (.t 50) (.c (.bool false))), oG 52 35 true (.pick (.t 42) (.c (.bool true)) (.t 51)), oQ 53 (.pick (.t 35) (.t 52) (.c (.bool false))), qM 4 31, qM 5 53])
 .ret)))))
theorem op_slices_BinarySearch_int_int (hn : vals.length ≤ 54) (h : SP Tryz.prog true vals bs rc_slices_BinarySearch_int_int [.slot 4, .slot 5] Q) : AM.Sem Tryz.prog 105 vals bs Q :=
 Sem.nrm (Sem.of (fn := Tryz.f105) (keeps := [(0, [0, 1]), (1, [0, 1, 6]), (2, [0, 1, 6, 7, 8]), (3, [0, 1, 6, 7, 8, 15]), (4, [0, 1, 6, 7, 8, 9]), (5, [0, 1, 6, 7, 8, 9, 27]), (7, [0, 1, 6, 7, 8]), (6, [0, 1, 6, 7, 8]), (8, [4, 5])]) (solo := []) Tryz.func105 rfl (by kernel_rfl) (by kernel_rfl) (by kernel_rfl) hn (run_gp h))
theorem opS_p_index_Index_keys (hn : vals.length ≤ 6) (h : SP Tryz.prog false vals bs rc_p_index_Index_keys [.slot 4] Q) : AM.Sem Tryz.prog 53 vals bs Q :=
 Sem.nrm (Sem.of (fn := Tryz.f53) (keeps := [(0, [2, 3]), (1, [4])]) (solo := []) Tryz.func53 rfl (by kernel_rfl) (by kernel_rfl) (by kernel_rfl) hn (run_gp h))
theorem opS_p_index_Index_keys_1 (hn : vals.length ≤ 55) (h : SP Tryz.prog false vals bs rc_p_index_Index_keys_1 [] Q) : AM.Sem Tryz.prog 108 vals bs Q :=
 Sem.nrm (Sem.of (fn := Tryz.f108) (keeps := [(0, [0, 2, 12, 13, 14]), (1, [0, 2, 12, 13, 14, 15]), (2, [0, 2, 4, 5, 12, 13, 14]), (3, [0, 2, 4, 5, 12, 13, 14, 31]), (4, [0, 2, 4, 5, 6, 12, 13, 14]), (5, [0, 2, 4, 6, 12, 13, 14, 33, 34, 35]), (6, [0, 2, 4, 6, 12, 13, 14, 33, 34, 35, 36]), (7, [0, 2, 4, 6, 8, 12, 13, 14, 33, 34, 35]), (8, [0, 2, 4, 6, 12, 13, 14, 33, 34, 35]), (9, [0, 2, 4, 6, 12, 13, 14, 33, 34, 35]), (10, [0, 2, 12, 13, 14, 53]), (11, [0, 2, 12, 13, 14])]) (solo := []) Tryz.func108 rfl (by kernel_rfl) (by kernel_rfl) (by kernel_rfl) hn (run_gp h))
theorem opS_p_index_Index_enter (hn : vals.length ≤ 45) (h : SP Tryz.prog false vals bs rc_p_index_Index_enter [] Q) : AM.Sem Tryz.prog 51 vals bs Q :=
 Sem.nrm (Sem.of (fn := Tryz.f51) (keeps := [(0, [2, 3]), (1, [2, 3, 12]), (2, [2, 3, 4, 14]), (3, [2, 3, 4, 5]), (4, [2, 3, 4, 5, 6]), (5, [2, 3, 4, 5, 6, 7]), (6, []), (1000000, [43]), (2000006, [0, 1, 2, 3, 4, 5, 6, 7, 8, 9, 10, 11, 12, 13, 14]), (3000006, [0, 0, 0, 0, 0, 0, 0, 0, 0, 0, 0, 0, 2, 2, 1])]) (solo := []) Tryz.func51 rfl (by kernel_rfl) (by kernel_rfl) (by kernel_rfl) hn (run_gp h))
theorem opS_p_index_Index_find (hn : vals.length ≤ 14) (h : SP Tryz.prog false vals bs rc_p_index_Index_find [.slot 4, .slot 5] Q) : AM.Sem Tryz.prog 48 vals bs Q :=
 Sem.nrm (Sem.of (fn := Tryz.f48) (keeps := [(0, [0, 1]), (1, [4, 5])]) (solo := []) Tryz.func48 rfl (by kernel_rfl) (by kernel_rfl) (by kernel_rfl) hn (run_gp h))
theorem opS_p_index_Index_Insert (hn : vals.length ≤ 51) (h : SP Tryz.prog false vals bs rc_p_index_Index_Insert [.slot 4] Q) : AM.Sem Tryz.prog 14 vals bs Q :=
 Sem.nrm (Sem.of (fn := Tryz.f14) (keeps := [(0, [0, 3]), (1, [0, 3, 8]), (2, [4]), (3, [0, 3, 5, 6]), (4, [0, 3, 5, 6, 16]), (6, [0, 3, 5, 26]), (8, [0, 3, 5, 28]), (9, [4]), (7, [4]), (5, [4]), (10, [0, 3, 5]), (11, [0, 3]), (12, []), (13, [4]), (1000000, [44]), (2000011, [0, 1, 2, 3, 4, 5, 6, 7, 8, 9, 10, 11]), (3000011, [0, 0, 0, 0, 0, 0, 0, 2, 2, 0, 0, 1])]) (solo := []) Tryz.func14 rfl (by kernel_rfl) (by kernel_rfl) (by kernel_rfl) hn (run_gp h))
theorem opS_p_index_Index_Delete (hn : vals.length ≤ 74) (h : SP Tryz.prog false vals bs rc_p_index_Index_Delete [.slot 4] Q) : AM.Sem Tryz.prog 16 vals bs Q :=
 Sem.nrm (Sem.of (fn := Tryz.f16) (keeps := [(0, [2, 3, 4]), (1, [2, 3, 4, 11]), (2, [4]), (3, [2, 3, 4, 5, 6]), (4, [2, 3, 4, 5, 19]), (5, [4]), (6, [2, 3, 4, 5, 29]), (7, [2, 3, 7, 31]), (8, [2, 3, 7, 8]), (9, [2, 7, 8, 9]), (10, [2, 7, 8, 9, 45]), (12, []), (11, []), (13, []), (14, [4]), (2000006, [0, 1, 2, 3, 4, 5, 6, 7, 8, 9]), (3000006, [0, 0, 0, 0, 0, 0, 0, 0, 0, 1]), (2000013, [0, 1, 2, 3, 4, 5, 6, 7, 8, 9, 10, 11]), (3000013, [0, 0, 0, 0, 0, 0, 0, 0, 2, 0, 0, 1])]) (solo := []) Tryz.func16 rfl (by kernel_rfl) (by kernel_rfl) (by kernel_rfl) hn (run_gp h))
theorem opS_p_index_Index_Find (hn : vals.length ≤ 47) (h : SP Tryz.prog false vals bs rc_p_index_Index_Find [.slot 6] Q) : AM.Sem Tryz.prog 13 vals bs Q :=
 Sem.nrm (Sem.of (fn := Tryz.f13) (keeps := [(0, [0, 1, 2]), (1, [0, 1, 2, 35]), (2, [6]), (3, [6]), (2000003, [0, 1, 2, 3, 4, 5, 6, 7, 8, 9, 10, 11]), (3000003, [0, 0, 0, 0, 0, 0, 0, 0, 0, 1, 1, 0])]) (solo := []) Tryz.func13 rfl (by kernel_rfl) (by kernel_rfl) (by kernel_rfl) hn (run_gp h))
theorem opS_p_index_Index_Items (hn : vals.length ≤ 24) (h : SP Tryz.prog false vals bs rc_p_index_Index_Items [.slot 2] Q) : AM.Sem Tryz.prog 12 vals bs Q :=
 Sem.nrm (Sem.of (fn := Tryz.f12) (keeps := [(0, [0]), (1, [0, 7]), (2, [2]), (3, [0, 3]), (4, [3, 11, 12, 13]), (5, [3, 11, 12, 13, 14]), (6, [3, 5, 11, 12, 13]), (7, [3, 11, 12, 13]), (8, [3, 11, 12, 13]), (9, [2])]) (solo := []) Tryz.func12 rfl (by kernel_rfl) (by kernel_rfl) (by kernel_rfl) hn (run_gp h))
theorem opS_slices_BinarySearchFunc_api_Item_api_Item_int (hn : vals.length ≤ 49) (h : SP Tryz.prog false vals bs rc_slices_BinarySearchFunc_api_Item_api_Item_int [.slot 6, .slot 7] Q) : AM.Sem Tryz.prog 99 vals bs Q :=
 Sem.nrm (Sem.of (fn := Tryz.f99) (keeps := [(0, [0, 1, 2]), (1, [0, 1, 2, 8]), (2, [0, 1, 2, 8, 9, 10]), (3, [0, 1, 2, 8, 9, 10, 17]), (4, [0, 1, 2, 8, 9, 10, 11]), (5, [0, 1, 2, 8, 9, 10, 11, 31]), (7, [0, 1, 2, 8, 9, 10]), (6, [0, 1, 2, 8, 9, 10]), (8, [6, 7])]) (solo := []) Tryz.func99 rfl (by kernel_rfl) (by kernel_rfl) (by kernel_rfl) hn (run_gp h))
end Go.CK
