/-
  PLAIN GROUND: worlds that only grow ('Ext'), knowledge of cells that stay as they are ('Hp'), slices that read as lists ('Sl'), rows that a call builds itself ('Own').
  No function of the program is named here. By an AI agent.
-/
import Derived.WalkKit
import Derived.WalkSpells
import Derived.WalkLawsBesides
import Derived.Lib.Hide
set_option linter.unusedSimpArgs false
set_option linter.unusedVariables false
namespace Go.CK
open Go.RowKit

/-- what a string or a slice may hold; glim: what a call may build -/
def lim : Nat := 9223372036854775807
def glim : Nat := 4294967296
theorem glim_le {n : Nat} (h : n ≤ glim) : n ≤ lim := by unfold glim at h; unfold lim; omega
def IntOk (n : Int) : Prop := -9223372036854775808 ≤ n ∧ n ≤ 9223372036854775807

theorem IntOk.wf {n : Int} (h : IntOk n) : (Lit.int .i64 n).wf = true := WalkArith.wf_i64 h
theorem IntOk.of_wf {n : Int} (h : (Lit.int .i64 n).wf = true) : IntOk n := by
  simpa [Lit.wf, IntKind.min, IntKind.max, IntKind.signed, IntKind.bits, IntOk] using h
theorem IntOk.wrap (n : Int) : IntOk (wrap64 n) := by
  have := wrap64_wf n
  exact IntOk.of_wf this
theorem IntOk.nat {n : Nat} (h : n ≤ lim) : IntOk (n : Int) := by ((try unfold glim at h);(try unfold lim at h)); unfold IntOk; omega

/-! ### the world only grows -/
structure Ext (w w' : World) : Prop where
  bel : Below w.heap.size w w'

theorem Ext.refl (w : World) : Ext w w := ⟨Below.refl _ _⟩
theorem Ext.size {w w' : World} (h : Ext w w') : w.heap.size ≤ w'.heap.size := h.bel.size
theorem Ext.trans {a b c : World} (h : Ext a b) (k : Ext b c) : Ext a c := ⟨h.bel.trans (k.bel.mono h.size)⟩
theorem Ext.alloc {a b : World} (h : Ext a b) (o : Obj) : Ext a (b.alloc o) := ⟨h.bel.alloc h.size o⟩
theorem Ext.drew {a b : World} (h : Ext a b) : Ext a b.drew := ⟨h.bel.drew⟩
theorem Ext.drewN {a b : World} (h : Ext a b) (n : Nat) : Ext a (b.drewN n) := ⟨below_drewN h.bel n⟩
theorem Ext.setCell {a b : World} (h : Ext a b) {p : Addr} (hp : a.heap.size ≤ p.block) (u : Value) : Ext a (b.setCell p u) := ⟨h.bel.setCell hp u⟩
theorem Ext.cell {a b : World} (h : Ext a b) {p : Addr} {v : Value} (hv : a.cell? p = some v) : b.cell? p = some v := by
  rw [h.bel.cell (World.block_lt_of_cell? a p hv)]; exact hv
theorem Ext.frozen {a b : World} (h : Ext a b) {p : Addr} (hp : p.block < a.heap.size) : b.frozen? p = a.frozen? p := h.bel.frozen hp
theorem Ext.grown {a b c : World} {row : Option Nat} (h : Ext a b) (hg : b.grownBy c row) (hr : ∀ k, row = some k → a.heap.size ≤ k) : Ext a c := ⟨h.bel.grown hg h.size hr⟩
theorem Ext.cells {w w' : World} (h : Ext w w') : (∀ b o, b < w.heap.size → w'.cell? ⟨b, o, none⟩ = w.cell? ⟨b, o, none⟩) ∧ (∀ b o, b < w.heap.size → w'.frozen? ⟨b, o, none⟩ = w.frozen? ⟨b, o, none⟩) :=
  ⟨fun b o k => h.bel.cell (p := ⟨b, o, none⟩) k, fun b o k => h.bel.frozen (p := ⟨b, o, none⟩) k⟩

/-! ### cells that stay as they are -/
abbrev Hp := Nat → Nat → Option Value
def Hp.le (H H' : Hp) : Prop := ∀ b o v, H b o = some v → H' b o = some v
def Hp.of (w : World) : Hp := fun b o => w.cell? ⟨b, o, none⟩
def Hp.plus (H : Hp) (w w' : World) : Hp := fun b o => if w.heap.size ≤ b then w'.cell? ⟨b, o, none⟩ else H b o
def Hp.row (H : Hp) (w w' : World) (v : Value) : Hp := fun b o => if v.ownBlock = some b then none else H.plus w w' b o

theorem Hp.le_refl (H : Hp) : H.le H := fun _ _ _ h => h
theorem Hp.le_trans {A B C : Hp} (h : A.le B) (k : B.le C) : A.le C := fun _ _ _ x => k _ _ _ (h _ _ _ x)
theorem Hp.lt {H : Hp} {w : World} (h : H.le (Hp.of w)) {b o : Nat} {v : Value} (hv : H b o = some v) : b < w.heap.size := World.block_lt_of_cell? w _ (h _ _ _ hv)
theorem Hp.cell {H : Hp} {w : World} (h : H.le (Hp.of w)) {b o : Nat} {v : Value} (hv : H b o = some v) : w.cell? ⟨b, o, none⟩ = some v := h _ _ _ hv
theorem Hp.of_ext {w w' : World} (h : Ext w w') : (Hp.of w).le (Hp.of w') := fun _ _ _ x => h.cell x
theorem Hp.ext {H : Hp} {w w' : World} (hH : H.le (Hp.of w)) (h : Ext w w') : H.le (Hp.of w') := Hp.le_trans hH (Hp.of_ext h)
theorem Hp.le_plus {H : Hp} {w w' : World} (hH : H.le (Hp.of w)) : H.le (H.plus w w') := fun b o v x => by
  have := Hp.lt hH x
  simp only [Hp.plus]; rw [if_neg (by omega)]; exact x
theorem Hp.plus_le {H : Hp} {w w' : World} (hH : H.le (Hp.of w)) (h : Ext w w') : (H.plus w w').le (Hp.of w') := fun b o v x => by
  simp only [Hp.plus] at x
  split at x
  · exact x
  · exact (Hp.ext hH h) _ _ _ x
theorem Hp.plus_mono {H : Hp} {w w' w'' : World} (h : Ext w' w'') : (H.plus w w').le (H.plus w w'') := fun b o v x => by
  simp only [Hp.plus] at *
  split at x
  · rename_i hb; rw [if_pos hb]; exact h.cell x
  · rename_i hb; rw [if_neg hb]; exact x
theorem Hp.plus_plus {H H' : Hp} {w w1 w2 w3 : World} (h1 : w.heap.size ≤ w1.heap.size) (hH : H'.le (H.plus w w2)) (h2 : Ext w2 w3) : (H'.plus w1 w3).le (H.plus w w3) := fun b o v x => by
  simp only [Hp.plus] at x
  split at x
  · rename_i hb; simp only [Hp.plus]; rw [if_pos (by omega)]; exact x
  · exact Hp.plus_mono h2 _ _ _ (hH _ _ _ x)
/-- a function's result, in the caller's words -/
theorem Hp.up {H : Hp} {w w1 w2 w3 : World} (h1 : Ext w w1) (h2 : Ext w2 w3) (hH : H.le (Hp.of w)) : (H.plus w1 w2).le (H.plus w w3) := fun b o v x => by
  simp only [Hp.plus] at *
  have := h1.size
  split at x
  · rw [if_pos (by omega)]; exact h2.cell x
  · have := Hp.lt hH x
    rw [if_neg (by omega)]; exact x
theorem Hp.row_le {H : Hp} {w w' : World} (hH : H.le (Hp.of w)) (h : Ext w w') (v : Value) : (H.row w w' v).le (Hp.of w') := fun b o u x => by
  simp only [Hp.row] at x
  split at x
  · cases x
  · exact Hp.plus_le hH h _ _ _ x
theorem Hp.row_le_plus {H : Hp} {w w' : World} (v : Value) : (H.row w w' v).le (H.plus w w') := fun b o u x => by
  simp only [Hp.row] at x
  split at x
  · cases x
  · exact x
theorem Hp.le_row {H : Hp} {w w' : World} (hH : H.le (Hp.of w)) (v : Value) (hv : ∀ k, v.ownBlock = some k → w.heap.size ≤ k) : H.le (H.row w w' v) := fun b o u x => by
  have hl := Hp.lt hH x
  simp only [Hp.row]
  rw [if_neg (fun e => by have := hv _ e; omega)]
  exact Hp.le_plus hH _ _ _ x
/-- a callee's result, beside a row of the caller's own -/
theorem Hp.row_up {H : Hp} {w w' w1 w2 : World} {v : Value} (h0 : Ext w w') (h1 : Ext w' w1) (h2 : Ext w1 w2) (hv : ∀ k, v.ownBlock = some k → w.heap.size ≤ k ∧ k < w'.heap.size) : ((H.row w w' v).plus w1 w2).le (H.row w w2 v) := fun b o u x => by
  have := h0.size; have := h1.size
  simp only [Hp.plus] at x
  split at x
  · simp only [Hp.row]
    rw [if_neg (fun e => by have := hv _ e; omega)]
    simp only [Hp.plus]; rw [if_pos (by omega)]; exact x
  · simp only [Hp.row] at x ⊢
    split at x
    · cases x
    · rename_i hb; rw [if_neg hb]; exact Hp.plus_mono (h1.trans h2) _ _ _ x
theorem Hp.row_ext {H : Hp} {w w' w2 : World} {v : Value} (h2 : Ext w' w2) : (H.row w w' v).le (H.row w w2 v) := fun b o u x => by
  simp only [Hp.row] at x ⊢
  split at x
  · cases x
  · rename_i hb; rw [if_neg hb]; exact Hp.plus_mono h2 _ _ _ x

/-! ### a slice that reads as a list -/
/-- 'R cs x': the cells cs read as x. -/
structure Sl {α : Type} (H : Hp) (sz : Nat) (R : List Value → α → Prop) (a : Option Addr) (l : List α) : Prop where
  le : l.length ≤ lim
  at_ : ∀ i (h : i < l.length), ∃ b o cs, a = some ⟨b, o, none⟩ ∧ cs.length = sz ∧ (∀ j x, cs[j]? = some x → H b (o + i * sz + j) = some x) ∧ R cs l[i]

theorem Sl.mono {α : Type} {H H' : Hp} {sz : Nat} {R R' : List Value → α → Prop} {a : Option Addr} {l : List α} (h : Sl H sz R a l) (hH : H.le H') (hR : ∀ cs x, x ∈ l → R cs x → R' cs x) : Sl H' sz R' a l :=
  ⟨h.le, fun i hi => let ⟨b, o, cs, h1, h2, h3, h4⟩ := h.at_ i hi; ⟨b, o, cs, h1, h2, fun j x hx => hH _ _ _ (h3 j x hx), hR _ _ (List.getElem_mem hi) h4⟩⟩

theorem Sl.nil {α : Type} {H : Hp} {sz : Nat} {R : List Value → α → Prop} {a : Option Addr} : Sl H sz R a ([] : List α) := ⟨by simp, fun i hi => by cases hi⟩

theorem Sl.addr {α : Type} {H : Hp} {sz : Nat} {R : List Value → α → Prop} {a : Option Addr} {l : List α} (h : Sl H sz R a l) (hl : 0 < l.length) : ∃ b o, a = some ⟨b, o, none⟩ :=
  let ⟨b, o, _, h1, _⟩ := h.at_ 0 hl; ⟨b, o, h1⟩

theorem Sl.get {α : Type} {H : Hp} {sz : Nat} {R : List Value → α → Prop} {b o : Nat} {l : List α} (h : Sl H sz R (some ⟨b, o, none⟩) l) {w : World} (hw : H.le (Hp.of w)) (i : Nat) (hi : i < l.length) :
    ∃ cs, cs.length = sz ∧ (∀ j x, cs[j]? = some x → w.cell? ⟨b, o + i * sz + j, none⟩ = some x) ∧ R cs l[i] := by
  obtain ⟨b', o', cs, h1, h2, h3, h4⟩ := h.at_ i hi
  simp only [Option.some.injEq, Addr.mk.injEq, and_true] at h1
  obtain ⟨rfl, rfl⟩ := h1
  exact ⟨cs, h2, fun j x hx => Hp.cell hw (h3 j x hx), h4⟩

theorem Sl.get1 {α : Type} {H : Hp} {R : List Value → α → Prop} {b o : Nat} {l : List α} (h : Sl H 1 R (some ⟨b, o, none⟩) l) {w : World} (hw : H.le (Hp.of w)) (i : Nat) (hi : i < l.length) :
    ∃ c0, w.cell? ⟨b, o + i, none⟩ = some c0 ∧ R [c0] l[i] := by
  obtain ⟨cs, h1, h2, h3⟩ := h.get hw i hi
  match cs, h1 with
  | [c0], _ => exact ⟨c0, by simpa using h2 0 c0 rfl, h3⟩

theorem Sl.get2 {α : Type} {H : Hp} {R : List Value → α → Prop} {b o : Nat} {l : List α} (h : Sl H 2 R (some ⟨b, o, none⟩) l) {w : World} (hw : H.le (Hp.of w)) (i : Nat) (hi : i < l.length) :
    ∃ c0 c1, w.cell? ⟨b, o + i * 2, none⟩ = some c0 ∧ w.cell? ⟨b, o + i * 2 + 1, none⟩ = some c1 ∧ R [c0, c1] l[i] := by
  obtain ⟨cs, h1, h2, h3⟩ := h.get hw i hi
  match cs, h1 with
  | [c0, c1], _ => exact ⟨c0, c1, h2 0 c0 rfl, h2 1 c1 rfl, h3⟩

theorem Sl.get3 {α : Type} {H : Hp} {R : List Value → α → Prop} {b o : Nat} {l : List α} (h : Sl H 3 R (some ⟨b, o, none⟩) l) {w : World} (hw : H.le (Hp.of w)) (i : Nat) (hi : i < l.length) :
    ∃ c0 c1 c2, w.cell? ⟨b, o + i * 3, none⟩ = some c0 ∧ w.cell? ⟨b, o + i * 3 + 1, none⟩ = some c1 ∧ w.cell? ⟨b, o + i * 3 + 2, none⟩ = some c2 ∧ R [c0, c1, c2] l[i] := by
  obtain ⟨cs, h1, h2, h3⟩ := h.get hw i hi
  match cs, h1 with
  | [c0, c1, c2], _ => exact ⟨c0, c1, c2, h2 0 c0 rfl, h2 1 c1 rfl, h2 2 c2 rfl, h3⟩

theorem Sl.get4 {α : Type} {H : Hp} {R : List Value → α → Prop} {b o : Nat} {l : List α} (h : Sl H 4 R (some ⟨b, o, none⟩) l) {w : World} (hw : H.le (Hp.of w)) (i : Nat) (hi : i < l.length) :
    ∃ c0 c1 c2 c3, w.cell? ⟨b, o + i * 4, none⟩ = some c0 ∧ w.cell? ⟨b, o + i * 4 + 1, none⟩ = some c1 ∧ w.cell? ⟨b, o + i * 4 + 2, none⟩ = some c2 ∧ w.cell? ⟨b, o + i * 4 + 3, none⟩ = some c3 ∧ R [c0, c1, c2, c3] l[i] := by
  obtain ⟨cs, h1, h2, h3⟩ := h.get hw i hi
  match cs, h1 with
  | [c0, c1, c2, c3], _ => exact ⟨c0, c1, c2, c3, h2 0 c0 rfl, h2 1 c1 rfl, h2 2 c2 rfl, h2 3 c3 rfl, h3⟩

theorem Sl.get6 {α : Type} {H : Hp} {R : List Value → α → Prop} {b o : Nat} {l : List α} (h : Sl H 6 R (some ⟨b, o, none⟩) l) {w : World} (hw : H.le (Hp.of w)) (i : Nat) (hi : i < l.length) :
    ∃ c0 c1 c2 c3 c4 c5, w.cell? ⟨b, o + i * 6, none⟩ = some c0 ∧ w.cell? ⟨b, o + i * 6 + 1, none⟩ = some c1 ∧ w.cell? ⟨b, o + i * 6 + 2, none⟩ = some c2 ∧ w.cell? ⟨b, o + i * 6 + 3, none⟩ = some c3 ∧ w.cell? ⟨b, o + i * 6 + 4, none⟩ = some c4 ∧ w.cell? ⟨b, o + i * 6 + 5, none⟩ = some c5 ∧ R [c0, c1, c2, c3, c4, c5] l[i] := by
  obtain ⟨cs, h1, h2, h3⟩ := h.get hw i hi
  match cs, h1 with
  | [c0, c1, c2, c3, c4, c5], _ => exact ⟨c0, c1, c2, c3, c4, c5, h2 0 c0 rfl, h2 1 c1 rfl, h2 2 c2 rfl, h2 3 c3 rfl, h2 4 c4 rfl, h2 5 c5 rfl, h3⟩

/-! ### a row that the call builds itself -/
/-- In world w the slice value v owns a row, begun behind w0, whose elements read as l. -/
structure Own {α : Type} (H : Hp) (w0 w : World) (e : TypeId) (sz : Nat) (R : Hp → List Value → α → Prop) (v : Value) (l : List α) : Prop where
  ext : Ext w0 w
  hp : H.le (Hp.of w0)
  row : ∃ xs, w.ownsRow w0.heap.size e sz v l.length xs ∧ ∀ i (h : i < l.length), R (H.row w0 w v) ((xs.drop (i * sz)).take sz) l[i]

/-- R reads no more in less. -/
def Up {α : Type} (R : Hp → List Value → α → Prop) : Prop := ∀ H H' cs x, H.le H' → R H cs x → R H' cs x

section
variable {α : Type} {H : Hp} {w0 w : World} {e : TypeId} {sz : Nat} {R : Hp → List Value → α → Prop} {v : Value} {l : List α}

theorem Own.nil (hp : H.le (Hp.of w0)) (h : Ext w0 w) : Own H w0 w e sz R (.slice none 0 0) ([] : List α) :=
  ⟨h, hp, [], World.ownsRow_nil _ _ _ _, fun i hi => by cases hi⟩

theorem Own.shape (h : Own H w0 w e sz R v l) : ∃ a cap, v = .slice a l.length cap := by
  obtain ⟨xs, hx, _⟩ := h.row
  rcases hx.2 with ⟨rfl, h0⟩ | ⟨g, cap, cur, rfl, _⟩
  · exact ⟨none, 0, by rw [h0]⟩
  · exact ⟨_, cap, rfl⟩

theorem Own.block (h : Own H w0 w e sz R v l) : ∀ k, v.ownBlock = some k → w0.heap.size ≤ k ∧ k < w.heap.size := by
  obtain ⟨xs, hx, _⟩ := h.row
  exact hx.lt

theorem Own.le_row (h : Own H w0 w e sz R v l) : H.le (H.row w0 w v) := Hp.le_row h.hp v fun k hk => (h.block k hk).1
theorem Own.row_le (h : Own H w0 w e sz R v l) : (H.row w0 w v).le (Hp.of w) := Hp.row_le h.hp h.ext v

/-- nothing that lay there has turned -/
theorem Own.move {w' : World} (hu : Up R) (h : Own H w0 w e sz R v l) (h' : Ext w w') : Own H w0 w' e sz R v l := by
  obtain ⟨xs, hx, hr⟩ := h.row
  refine ⟨h.ext.trans h', h.hp, xs, ?_, fun i hi => hu _ _ _ _ (Hp.row_ext h') (hr i hi)⟩
  exact hx.kept (row := none) ⟨h'.bel.os, h'.bel.tape, h'.bel.output, h'.size, fun k hk _ => h'.bel.block k hk⟩ (by cases hv : v.ownBlock <;> simp)

/-- the list is read where it lies -/
theorem Own.read (hu : Up R) (h : Own H w0 w e sz R v l) (hl : l.length ≤ lim) : ∃ a cap, v = .slice a l.length cap ∧ l.length ≤ cap ∧ Sl (H.plus w0 w) sz (R (H.plus w0 w)) a l := by
  obtain ⟨xs, hx, hr⟩ := h.row
  rcases hx.2 with ⟨rfl, h0⟩ | ⟨g, cap, cur, rfl, hb, hg, hn, hc, hs, ht⟩
  · exact ⟨none, 0, by rw [h0], by omega, hl, fun i hi => by omega⟩
  · refine ⟨_, cap, rfl, hn, hl, fun i hi => ⟨g, 0, _, rfl, ?_, ?_, hu _ _ _ _ (Hp.row_le_plus _) (hr i hi)⟩⟩
    · simp only [List.length_take, List.length_drop, hx.1]
      have h1 : (i + 1) * sz ≤ l.length * sz := Nat.mul_le_mul_right _ hi
      have h2 : (i + 1) * sz = i * sz + sz := by rw [Nat.add_mul, Nat.one_mul]
      omega
    · intro j x hj
      have hj' : xs[i * sz + j]? = some x := by
        rw [List.getElem?_take] at hj
        split at hj
        · rw [List.getElem?_drop] at hj; exact hj
        · cases hj
      have := hx.cells (g := g) rfl _ _ hj'
      simp only [Hp.plus]
      rw [if_pos (by omega)]
      have ha : (⟨g, 0, none⟩ : Addr).add (i * sz + j) = ⟨g, 0 + i * sz + j, none⟩ := by unfold Addr.add; split <;> simp_all
      rw [← ha]; exact this
end

theorem chunk_append {sz : Nat} {xs ys : List Value} {n : Nat} (hx : xs.length = n * sz) (i : Nat) (hi : i < n) : ((xs ++ ys).drop (i * sz)).take sz = (xs.drop (i * sz)).take sz := by
  have h1 : (i + 1) * sz ≤ n * sz := Nat.mul_le_mul_right _ hi
  have h2 : (i + 1) * sz = i * sz + sz := by rw [Nat.add_mul, Nat.one_mul]
  rw [List.drop_append_of_le_length (by omega), List.take_append_of_le_length (by simp; omega)]

theorem chunk_append_right {sz : Nat} {xs ys : List Value} {n : Nat} (hx : xs.length = n * sz) (i : Nat) : ((xs ++ ys).drop ((n + i) * sz)).take sz = (ys.drop (i * sz)).take sz := by
  rw [Nat.add_mul, ← hx, ← List.drop_drop, List.drop_left]

theorem growslice_fits' {n old bytes : Nat} (h1 : old < n) (h : n * bytes ≤ 140737488355328) : Builtin.nextslicecap n old * bytes ≤ 281474976710656 := growslice_fits h1 h

/-- What an append to a row of one's own leaves: the row is the same one, or a new one. -/
theorem run_append_own2 {P : Program} (w : World) (base : Nat) (t ty e : TypeId) (i : TypeInfo) (z : Value) (size bytes : Nat) (ht : P.underlying t = some (.slice e)) (hi : P.info? e = some i) (hz : i.zero = some z)
    (hsize : i.size = size) (hby : i.bytes = bytes) (hzs : z.cells.size = size)
    (v : Value) (n : Nat) (xs : List Value) (hown : w.ownsRow base e size v n xs)
    (a : Addr) (m c : Nat) (news : List Value) (hl : news.length = m * size) (hnews : ∀ j u, news[j]? = some u → w.cell? (a.add j) = some u) (h1 : ∀ u ∈ news, u.oneCell' = true)
    (h63 : n + m ≤ maxLen) (hbytes : (n + m) * bytes ≤ 140737488355328) (hbase : base ≤ w.heap.size) :
    ∃ v' w', (Builtin.append_ #[t, t] ty #[v, .slice (some a) m c]).run P w = .ok v' w' ∧ w'.ownsRow base e size v' (n + m) (xs ++ news) ∧ w.grownBy w' v.ownBlock ∧
      (v'.ownBlock = v.ownBlock ∨ ∀ k, v'.ownBlock = some k → w.heap.size ≤ k) := by
  subst hsize
  subst hby
  have hsmall : n + m ≤ 9223372036854775807 := by simp only [maxLen] at h63; omega
  have hlen : (xs ++ news).length = (n + m) * i.size := by rw [List.length_append, hown.1, hl, Nat.add_mul]
  have grown : ∀ (old : Nat), old < n + m → ∀ (row : Option Nat),
      (w.drew.alloc (.cells (xs.toArray ++ news.toArray ++ Builtin.zeroCells z.cells (grownCap w (n + m) old e - (n + m))) e)).ownsRow base e i.size
        (.slice (some ⟨w.heap.size, 0, none⟩) (n + m) (grownCap w (n + m) old e)) (n + m) (xs ++ news) ∧
      w.grownBy (w.drew.alloc (.cells (xs.toArray ++ news.toArray ++ Builtin.zeroCells z.cells (grownCap w (n + m) old e - (n + m))) e)) row := by
    intro old ho row
    have hge := grownCap_ge w (n + m) old e
    have hcm : grownCap w (n + m) old e ≤ maxLen := grownCap_le_maxLen w (n + m) old e h63
    refine ⟨⟨hlen, .inr ⟨w.heap.size, _, _, rfl, hbase, heap_alloc_new w.drew _, hge, hcm, ?_, ?_⟩⟩, ⟨rfl, rfl, rfl, by simp, fun k hk _ => Below.heap_alloc w.drew _ k hk⟩⟩
    · simp only [Array.size_append, List.size_toArray, size_zeroCells, hzs, hown.1, hl, ← Nat.add_mul]
      congr 1
      omega
    · simp only [Array.toList_append, List.append_assoc]
      rw [← List.append_assoc, ← hlen]
      exact List.take_left
  rcases hown.2 with ⟨rfl, rfl⟩ | ⟨g, cap, cur, rfl, hbg, hg, hnc, hcm, hcs, htake⟩
  · have hx : xs = [] := List.eq_nil_of_length_eq_zero (by simpa using hown.1)
    subst hx
    by_cases hm : m = 0
    · subst hm
      have hn : news = [] := List.eq_nil_of_length_eq_zero (by simpa using hl)
      subst hn
      refine ⟨.slice none 0 0, w, ?_, World.ownsRow_nil w base e i.size, ⟨rfl, rfl, rfl, Nat.le_refl _, fun _ _ _ => rfl⟩, .inl rfl⟩
      simp [Builtin.append_, run_underlying ht, sizeOf, typeInfo, hi, Builtin.lenOf, Builtin.firstCells, loadCells, loadCellsFrom]
    · have hr := run_append_nil (P := P) w t ty e i z ht hi hz a m c news hl hnews (by omega) (by omega) (by have hb := hbytes; simp only [Nat.zero_add] at hb; omega)
      have hgr := grown 0 (by omega) (Value.ownBlock (.slice none 0 0))
      simp only [Nat.zero_add, List.nil_append, Array.empty_append] at hgr ⊢
      exact ⟨_, _, hr, hgr.1, hgr.2, .inr fun k hk => by simp [Value.ownBlock] at hk; omega⟩
  · by_cases hroom : n + m ≤ cap
    · have hfit : n * i.size + news.length ≤ cur.size := by rw [hl, hcs, ← Nat.add_mul]; exact Nat.mul_le_mul_right _ hroom
      have hr := run_append_room (P := P) w t ty e i ht hi g n cap cur hg a m c news hl hnews h1 hroom hfit
      refine ⟨_, _, hr, ⟨hlen, .inr ⟨g, cap, _, rfl, hbg, setRow_heap w g cur _ e _ hg, hroom, hcm, ?_, ?_⟩⟩, ⟨rfl, rfl, rfl, by simp, fun k _ hk => setRow_other w g k _ (fun e => hk (by simp [Value.ownBlock, e]))⟩, .inl rfl⟩
      · simp only [List.size_toArray, List.length_append, List.length_take, List.length_drop, Array.length_toList]
        omega
      · rw [htake, ← hlen]
        exact List.take_left
    · have holds : ∀ j u, xs[j]? = some u → w.cell? ((⟨g, 0, none⟩ : Addr).add j) = some u := hown.cells (g := g) rfl
      have hr := run_append_grow (P := P) w t ty e i z ht hi hz ⟨g, 0, none⟩ n cap xs hown.1 holds a m c news hl hnews (by omega) (by omega) (growslice_fits (by omega) hbytes)
      have hgr := grown cap (by omega) (Value.ownBlock (.slice (some ⟨g, 0, none⟩) n cap))
      exact ⟨_, _, hr, hgr.1, hgr.2, .inr fun k hk => by simp [Value.ownBlock] at hk; omega⟩

/-- 'out = append(out, ys...)': ys' cells lie at 'ad'. -/
theorem Own.append {α : Type} {H : Hp} {w0 w : World} {e : TypeId} {sz : Nat} {R : Hp → List Value → α → Prop} {v : Value} {l : List α} {P : Program} (hu : Up R)
    (t ty : TypeId) (i : TypeInfo) (z : Value) (bytes : Nat) (ht : P.underlying t = some (.slice e)) (hi : P.info? e = some i) (hz : i.zero = some z)
    (hsize : i.size = sz) (hby : i.bytes = bytes) (hzs : z.cells.size = sz) (h : Own H w0 w e sz R v l)
    (ys : List α) (a : Addr) (c : Nat) (news : List Value) (hl : news.length = ys.length * sz) (hnews : ∀ j u, news[j]? = some u → w.cell? (a.add j) = some u) (h1 : ∀ u ∈ news, u.oneCell' = true)
    (hr : ∀ i (hi : i < ys.length), R (H.row w0 w v) ((news.drop (i * sz)).take sz) ys[i]) (hlen : l.length + ys.length ≤ glim) (hb : bytes ≤ 4096) :
    ∃ v' w', (Builtin.append_ #[t, t] ty #[v, .slice (some a) ys.length c]).run P w = .ok v' w' ∧ Own H w0 w' e sz R v' (l ++ ys) ∧ w.grownBy w' v.ownBlock := by
  obtain ⟨xs, hx, hxr⟩ := h.row
  have hbytes : (l.length + ys.length) * bytes ≤ 140737488355328 := by
    have := Nat.mul_le_mul hlen hb
    ((try unfold glim at this);(try unfold lim at this)); omega
  obtain ⟨v', w', hrun, hown, hg, hv⟩ := run_append_own2 (P := P) w w0.heap.size t ty e i z sz bytes ht hi hz hsize hby hzs v l.length xs hx a ys.length c news hl hnews h1 (by ((try unfold glim at hlen);(try unfold lim at hlen)); unfold maxLen; omega) hbytes h.ext.size
  have hblk := h.block
  have hle : (H.row w0 w v).le (H.row w0 w' v') := by
    intro b o u hbo
    simp only [Hp.row] at hbo ⊢
    split at hbo
    · cases hbo
    · rename_i hne
      have hb' : v'.ownBlock ≠ some b := by
        intro he
        rcases hv with hv | hv
        · rw [hv] at he; exact hne he
        · have h2 := hv _ he
          have h3 : b < w.heap.size := Hp.lt (Hp.plus_le h.hp h.ext) hbo
          omega
      rw [if_neg hb']
      simp only [Hp.plus] at hbo ⊢
      split at hbo
      · rename_i hge
        rw [if_pos hge]
        exact hg.cell hbo (fun e => hne e.symm)
      · rename_i hge; rw [if_neg hge]; exact hbo
  refine ⟨v', w', hrun, ⟨h.ext.grown hg (fun k hk => (hblk k hk).1), h.hp, xs ++ news, by rw [List.length_append]; exact hown, ?_⟩, hg⟩
  intro j hj
  rw [List.length_append] at hj
  by_cases hjl : j < l.length
  · rw [chunk_append hx.1 j hjl, List.getElem_append_left hjl]
    exact hu _ _ _ _ hle (hxr j hjl)
  · obtain ⟨k, rfl⟩ : ∃ k, j = l.length + k := ⟨j - l.length, by omega⟩
    rw [chunk_append_right hx.1 k, List.getElem_append_right (by omega)]
    simp only [Nat.add_sub_cancel_left]
    exact hu _ _ _ _ hle (hr k (by omega))

theorem wpList_append {α : Type} {H : Hp} {w0 w : World} {e : TypeId} {sz : Nat} {R : Hp → List Value → α → Prop} {v : Value} {l : List α} {P : Program} {ops : Array Oper} {rest : List Oper} {o : Oper} {a : Act} {Q : Exit → Act → World → Prop}
    (hgd : o.guard = none) (s x : Operand) (t : TypeId)
    (ho : o.op = .call { callee := .builtin .append, args := #[s, x], argTypes := #[t, t] }) (hu : Up R)
    (i : TypeInfo) (z : Value) (bytes : Nat) (ht : P.underlying t = some (.slice e)) (hi : P.info? e = some i) (hz : i.zero = some z)
    (hsize : i.size = sz) (hby : i.bytes = bytes) (hzs : z.cells.size = sz) (hs : a.eval s = v) (h : Own H w0 w e sz R v l)
    (ys : List α) (ad : Addr) (m c : Nat) (news : List Value) (hx : a.eval x = .slice (some ad) m c) (hm : m = ys.length) (hl : news.length = ys.length * sz) (hnews : ∀ j u, news[j]? = some u → w.cell? (ad.add j) = some u) (h1 : ∀ u ∈ news, u.oneCell' = true)
    (hr : ∀ i (hi : i < ys.length), R (H.row w0 w v) ((news.drop (i * sz)).take sz) ys[i]) (hlen : l.length + ys.length ≤ glim) (hb : bytes ≤ 4096)
    (hk : ∀ v' w', Own H w0 w' e sz R v' (l ++ ys) → w.grownBy w' v.ownBlock → wpList P ops Q rest (a.put o.dst v') w') : wpList P ops Q (o :: rest) a w := by
  refine wpList_plain hgd fun K hK => ?_
  subst hm
  obtain ⟨v', w', hrun, h2, h3⟩ := h.append hu t o.type i z bytes ht hi hz hsize hby hzs ys ad c news hl hnews h1 hr hlen hb
  unfold Oper.wp execOp
  simp only [ho, resolve, invoke, builtin, Sem.run_bind, Sem.run_pure, Result.andThen_ok, List.map_toArray, List.map_cons, List.map_nil, hs, hx, hrun]
  exact hK _ _ (hk v' w' h2 h3)


/-! ### make([]T, n) and stores into it -/
def setCs (w : World) (g : Nat) : Nat → List Value → World
  | _, [] => w
  | o, c :: cs => setCs (w.setCell ⟨g, o, none⟩ c) g (o + 1) cs

def setL (xs : List Value) : Nat → List Value → List Value
  | _, [] => xs
  | o, c :: cs => setL (xs.set o c) (o + 1) cs

theorem setL_length : ∀ (cs xs : List Value) (o : Nat), (setL xs o cs).length = xs.length
  | [], _, _ => rfl
  | c :: cs, xs, o => by rw [setL, setL_length cs, List.length_set]

theorem setL_get : ∀ (cs xs : List Value) (o j : Nat), o + cs.length ≤ xs.length → (setL xs o cs)[j]? = if o ≤ j ∧ j < o + cs.length then cs[j - o]? else xs[j]?
  | [], xs, o, j, _ => by simp [setL]; intro h1 h2; omega
  | c :: cs, xs, o, j, h => by
    simp only [List.length_cons] at h
    rw [setL, setL_get cs (xs.set o c) (o + 1) j (by simp; omega), List.getElem?_set]
    by_cases h1 : o = j
    · subst h1
      rw [if_neg (by omega), if_pos rfl, if_pos (by omega), if_pos (by simp)]
      simp
    · by_cases h2 : o + 1 ≤ j ∧ j < o + 1 + cs.length
      · rw [if_pos h2, if_pos (by simp; omega), show j - o = (j - (o + 1)) + 1 from by omega]
        simp
      · rw [if_neg h2, if_neg h1, if_neg (by simp; omega)]

theorem chunk_setL {sz n : Nat} {xs cs : List Value} (hx : xs.length = n * sz) (hc : cs.length = sz) (j i : Nat) (hj : j < n) : ((setL xs (j * sz) cs).drop (i * sz)).take sz = if i = j then cs else (xs.drop (i * sz)).take sz := by
  have h1 : (j + 1) * sz ≤ n * sz := Nat.mul_le_mul_right _ hj
  have h2 : (j + 1) * sz = j * sz + sz := by rw [Nat.add_mul, Nat.one_mul]
  apply List.ext_getElem?
  intro k
  rw [List.getElem?_take]
  split
  · rename_i hk
    rw [List.getElem?_drop, setL_get cs xs (j * sz) _ (by omega)]
    by_cases hij : i = j
    · subst hij
      rw [if_pos rfl, if_pos (by omega)]
      congr 1; omega
    · rw [if_neg hij]
      have : ¬ (j * sz ≤ i * sz + k ∧ i * sz + k < j * sz + cs.length) := by
        rcases Nat.lt_or_gt_of_ne hij with h | h
        · have h3 : (i + 1) * sz ≤ j * sz := Nat.mul_le_mul_right _ h
          have h4 : (i + 1) * sz = i * sz + sz := by rw [Nat.add_mul, Nat.one_mul]
          omega
        · have h3 : (j + 1) * sz ≤ i * sz := Nat.mul_le_mul_right _ h
          omega
      rw [if_neg this, List.getElem?_take, if_pos hk, List.getElem?_drop]
  · rename_i hk
    by_cases hij : i = j
    · rw [if_pos hij, List.getElem?_eq_none (by omega)]
    · rw [if_neg hij, List.getElem?_take, if_neg hk]

theorem setCs_own {base : Nat} {e : TypeId} {size g n cap : Nat} : ∀ (cs xs : List Value) (o : Nat) (w : World), w.ownsRow base e size (.slice (some ⟨g, 0, none⟩) n cap) n xs →
    (setCs w g o cs).ownsRow base e size (.slice (some ⟨g, 0, none⟩) n cap) n (setL xs o cs) ∧ w.grownBy (setCs w g o cs) (some g)
  | [], xs, o, w, h => ⟨h, World.grownBy.refl _ _⟩
  | c :: cs, xs, o, w, h => by
    obtain ⟨h1, h2⟩ := h.stored o c
    obtain ⟨h3, h4⟩ := setCs_own cs (xs.set o c) (o + 1) (w.setCell ⟨g, o, none⟩ c) h1
    exact ⟨h3, ⟨h4.os.trans h2.os, h4.tape.trans h2.tape, h4.output.trans h2.output, Nat.le_trans h2.size h4.size, fun k hk hne => (h4.block k (Nat.lt_of_lt_of_le hk h2.size) hne).trans (h2.block k hk hne)⟩⟩

section
variable {α : Type} {H : Hp} {w0 w : World} {e : TypeId} {sz : Nat} {R : Hp → List Value → α → Prop} {l : List α} {g cap : Nat}

/-- the cells of one's own row are there and not frozen -/
theorem Own.slot {n : Nat} (h : Own H w0 w e sz R (.slice (some ⟨g, 0, none⟩) n cap) l) (hn : n = l.length) (j : Nat) (hj : j < l.length * sz) : (∃ u, w.cell? ⟨g, j, none⟩ = some u) ∧ w.frozen? ⟨g, j, none⟩ = false := by
  subst hn
  obtain ⟨xs, hx, _⟩ := h.row
  have h1 := hx.cellAt j hj
  rw [List.getElem?_eq_getElem (by rw [hx.1]; exact hj)] at h1
  exact ⟨⟨_, h1⟩, hx.frozenAt j⟩

/-- a store of one element into one's own row -/
theorem Own.set {n : Nat} (hu : Up R) (h : Own H w0 w e sz R (.slice (some ⟨g, 0, none⟩) n cap) l) (hn : n = l.length) (j : Nat) (hj : j < l.length) (cs : List Value) (hc : cs.length = sz) (x : α) (hr : R (H.row w0 w (.slice (some ⟨g, 0, none⟩) n cap)) cs x) :
    Own H w0 (setCs w g (j * sz) cs) e sz R (.slice (some ⟨g, 0, none⟩) n cap) (l.set j x) := by
  subst hn
  obtain ⟨xs, hx, hxr⟩ := h.row
  obtain ⟨h1, h2⟩ := setCs_own cs xs (j * sz) w hx
  have hb := h.block g rfl
  have hle : (H.row w0 w (.slice (some ⟨g, 0, none⟩) l.length cap)).le (H.row w0 (setCs w g (j * sz) cs) (.slice (some ⟨g, 0, none⟩) l.length cap)) := by
    intro b o u hbo
    simp only [Hp.row] at hbo ⊢
    split at hbo
    · cases hbo
    · rename_i hne
      rw [if_neg hne]
      simp only [Hp.plus] at hbo ⊢
      split at hbo
      · rename_i hge; rw [if_pos hge]
        exact h2.cell hbo (by simp only [Value.ownBlock] at hne; exact fun e => hne e.symm)
      · rename_i hge; rw [if_neg hge]; exact hbo
  refine ⟨h.ext.grown h2 (fun k hk => by cases hk; exact hb.1), h.hp, setL xs (j * sz) cs, by rw [List.length_set]; exact h1, ?_⟩
  intro i hi
  rw [List.length_set] at hi
  rw [chunk_setL hx.1 hc j i hj, List.getElem_set]
  by_cases hij : j = i
  · subst hij
    rw [if_pos rfl, if_pos rfl]
    exact hu _ _ _ _ hle hr
  · rw [if_neg (fun e => hij e.symm), if_neg hij]
    exact hu _ _ _ _ hle (hxr i hi)
end

theorem chunk_zero {sz : Nat} (z : List Value) (hz : z.length = sz) (n i : Nat) (hi : i < n) : (((madeCells z.toArray (n * sz)).toList).drop (i * sz)).take sz = z := by
  have h1 : (i + 1) * sz ≤ n * sz := Nat.mul_le_mul_right _ hi
  have h2 : (i + 1) * sz = i * sz + sz := by rw [Nat.add_mul, Nat.one_mul]
  apply List.ext_getElem?
  intro k
  rw [List.getElem?_take]
  split
  · rename_i hk
    rw [List.getElem?_drop]
    simp only [madeCells, Array.getElem?_toList, Array.getElem?_map]
    rw [Array.getElem?_range]
    simp only [List.size_toArray, hz]
    rw [if_pos (by omega)]
    simp only [Option.map_some]
    have h3 : (i * sz + k) % sz = k := by rw [Nat.mul_comm, Nat.mul_add_mod, Nat.mod_eq_of_lt hk]
    rw [h3, List.getElem?_eq_getElem (by omega)]
    simp [getElem!_pos, hz, hk]
  · rename_i hk
    rw [List.getElem?_eq_none (by omega)]

/-- 'make([]T, n)' -/
theorem wpList_make {α : Type} {H : Hp} {w : World} {e : TypeId} {sz : Nat} {R : Hp → List Value → α → Prop} {P : Program} {ops : Array Oper} {rest : List Oper} {o : Oper} {a : Act} {Q : Exit → Act → World → Prop}
    (hg : o.guard = none) (lo co : Operand) (t : TypeId) (hop : o.op = Op.makeSlice t lo co)
    (i : TypeInfo) (z : Value) (zs : List Value) (h1 : P.underlying t = some (.slice e)) (h2 : P.info? e = some i) (h3 : i.zero = some z) (h4 : i.size = sz) (h5 : z.cells = zs.toArray) (h6 : zs.length = sz) (h7 : i.bytes ≤ 4096)
    (kl kc : IntKind) (L C : Int) (n : Nat) (hl : a.eval lo = .int kl L) (hc : a.eval co = .int kc C) (hL : L = (n : Int)) (hC : C = (n : Int)) (hn : n ≤ glim) (hH : H.le (Hp.of w)) (x : α) (hx : ∀ H, R H zs x)
    (hK : ∀ w', Own H w w' e sz R (.slice (some ⟨w.heap.size, 0, none⟩) n n) (List.replicate n x) → w.grownBy w' none → wpList P ops Q rest (a.put o.dst (.slice (some ⟨w.heap.size, 0, none⟩) n n)) w') :
    wpList P ops Q (o :: rest) a w := by
  have hb : i.bytes * n ≤ 281474976710656 := by
    have := Nat.mul_le_mul h7 hn
    ((try unfold glim at this);(try unfold lim at this)); omega
  refine wpList_make_full w hg lo co t hop w.heap.size e i z sz h1 h2 h3 h4 kl kc L C n hl hc hL hC hb (by ((try unfold glim at hn);(try unfold lim at hn)); unfold maxLen; omega) (Nat.le_refl _) ?_
  intro w' hown hgr
  refine hK w' ⟨⟨(Below.refl _ _).grown hgr (Nat.le_refl _) (fun k hk => by cases hk)⟩, hH, _, by rw [List.length_replicate]; exact hown, fun j hj => ?_⟩ hgr
  rw [List.length_replicate] at hj
  rw [List.getElem_replicate, h5, chunk_zero zs h6 n j hj]
  exact hx _


/-! ### a world under one name -/
theorem Calls.gen {P : Program} {f : FuncId} {args : Array Value} {w : World} {R : Ending → World → Prop} (h : ∀ wb, w = wb → Calls P f args wb R) : Calls P f args w R := h w rfl
theorem wp_gen {P : Program} {c : Code} {Q : Exit → Act → World → Prop} {a : Act} {w : World} (h : ∀ wb, w = wb → c.wp P Q a wb) : c.wp P Q a w := h w rfl
theorem wpList_gen {P : Program} {ops : Array Oper} {Q : Exit → Act → World → Prop} {l : List Oper} {a : Act} {w : World} (h : ∀ wb, w = wb → wpList P ops Q l a wb) : wpList P ops Q l a w := h w rfl

theorem cell_alloc (w : World) (cs : Array Value) (e : TypeId) (fr : Nat × Nat) (b j : Nat) : (w.alloc (.cells cs e fr)).cell? ⟨b, j, none⟩ = if b = w.heap.size then cs[j]? else w.cell? ⟨b, j, none⟩ := by
  split
  · rename_i h; subst h
    simp only [World.cell?, heap_alloc_new w]
    rfl
  · rename_i h
    by_cases hb : b < w.heap.size
    · simp only [World.cell?, Below.heap_alloc w _ b hb]
    · have h1 : (w.alloc (.cells cs e fr)).heap[b]? = none := by simp; omega
      have h2 : w.heap[b]? = none := by simp; omega
      simp only [World.cell?, h1, h2]

theorem frozen_alloc (w : World) (cs : Array Value) (e : TypeId) (b j : Nat) : (w.alloc (.cells cs e)).frozen? ⟨b, j, none⟩ = if b = w.heap.size then false else w.frozen? ⟨b, j, none⟩ := by
  split
  · rename_i h; subst h
    simp only [World.frozen?, heap_alloc_new w]
    simp
  · rename_i h
    by_cases hb : b < w.heap.size
    · simp only [World.frozen?, Below.heap_alloc w _ b hb]
    · have h1 : (w.alloc (.cells cs e)).heap[b]? = none := by simp; omega
      have h2 : w.heap[b]? = none := by simp; omega
      simp only [World.frozen?, h1, h2]

theorem cell_set (w : World) (b j b' j' : Nat) (v : Value) : (w.setCell ⟨b, j, none⟩ v).cell? ⟨b', j', none⟩ = if b = b' ∧ j = j' then (if (w.cell? ⟨b, j, none⟩).isSome then some v else none) else w.cell? ⟨b', j', none⟩ := by
  split
  · rename_i h
    obtain ⟨rfl, rfl⟩ := h
    split
    · rename_i hs; exact World.cell?_setCell_same' _ _ _ hs
    · rename_i hs
      have hn : w.cell? ⟨b, j, none⟩ = none := by simpa using hs
      cases hq : (w.setCell ⟨b, j, none⟩ v).cell? ⟨b, j, none⟩ with
      | none => rfl
      | some u =>
        exfalso
        revert hq
        simp only [World.cell?, World.setCell, Array.getElem?_modify] at hn ⊢
        cases hb : w.heap[b]? with
        | none => simp
        | some o =>
          rw [hb] at hn
          cases o <;> simp_all
  · rename_i h
    exact World.cell?_setCell_other _ _ _ _ (by simp; exact fun e => fun f => h ⟨e, f⟩)

theorem frozen_set (w : World) (a p : Addr) (v : Value) : (w.setCell a v).frozen? p = w.frozen? p := World.frozen?_setCell ..

theorem setCs_ext {a : World} {g : Nat} (hg : a.heap.size ≤ g) : ∀ (cs : List Value) (o : Nat) (w : World), Ext a w → Ext a (setCs w g o cs)
  | [], _, _, h => h
  | _ :: cs, o, _, h => setCs_ext hg cs (o + 1) _ (h.setCell hg _)

theorem setCs_out {g : Nat} : ∀ (cs : List Value) (o : Nat) (w : World) (b j : Nat), (b ≠ g ∨ j < o ∨ o + cs.length ≤ j) → (setCs w g o cs).cell? ⟨b, j, none⟩ = w.cell? ⟨b, j, none⟩
  | [], _, _, _, _, _ => rfl
  | c :: cs, o, w, b, j, h => by
    simp only [List.length_cons] at h
    rw [setCs, setCs_out cs (o + 1) _ b j (by omega), cell_set, if_neg (by rintro ⟨rfl, rfl⟩; omega)]

theorem setCs_in {g : Nat} : ∀ (cs : List Value) (o : Nat) (w : World), (∀ j, j < cs.length → (w.cell? ⟨g, o + j, none⟩).isSome = true) → ∀ j v, cs[j]? = some v → (setCs w g o cs).cell? ⟨g, o + j, none⟩ = some v
  | [], _, _, _, _, _, h => by simp at h
  | c :: cs, o, w, hs, 0, v, h => by
    simp only [List.getElem?_cons_zero, Option.some.injEq] at h
    subst h
    have h0 := hs 0 (by simp)
    rw [setCs, setCs_out cs (o + 1) _ g (o + 0) (by omega), cell_set, if_pos ⟨rfl, rfl⟩, if_pos (by simpa using h0)]
  | c :: cs, o, w, hs, j + 1, v, h => by
    simp only [List.getElem?_cons_succ] at h
    rw [setCs, show o + (j + 1) = (o + 1) + j from by omega]
    refine setCs_in cs (o + 1) _ (fun k hk => ?_) j v h
    rw [cell_set, if_neg (by rintro ⟨_, e⟩; omega), show o + 1 + k = o + (k + 1) from by omega]
    exact hs (k + 1) (by simp; omega)

theorem setCs_frozen {g : Nat} : ∀ (cs : List Value) (o : Nat) (w : World) (p : Addr), (setCs w g o cs).frozen? p = w.frozen? p
  | [], _, _, _ => rfl
  | c :: cs, o, w, p => by rw [setCs, setCs_frozen cs, frozen_set]

theorem setCs_size {g : Nat} : ∀ (cs : List Value) (o : Nat) (w : World), (setCs w g o cs).heap.size = w.heap.size
  | [], _, _ => rfl
  | c :: cs, o, w => by rw [setCs, setCs_size cs]; simp

/-- a struct that is handed back out of its cells -/
theorem results_cells {P : Program} {fn : Func} {p : Tmp} {ty : TypeId} (h : fn.results = #[.cell p ty]) (tmps : Array Value) (w : World) (b : Nat) (cs : List Value) (d : TypeDesc)
    (hp : tmps.getD p undef = .pointer (some ⟨b, 0, none⟩)) (hc : ∀ j v, cs[j]? = some v → w.cell? ⟨b, j, none⟩ = some v)
    (hu : P.underlying ty = some d) (hd : (match d with | .struct _ | .array _ _ => true | _ => false) = true) (hi : (P.info? ty).map (·.size) = some cs.length) :
    (results fn tmps).run P w = .ok (.agg cs.toArray) w := by
  have hp' : tmps[p]?.getD undef = .pointer (some ⟨b, 0, none⟩) := by simpa using hp
  have hl : (loadCells ⟨b, 0, none⟩ cs.length).run P w = .ok cs.toArray w :=
    run_loadCells_list (P := P) w ⟨b, 0, none⟩ cs (fun j v hv => by
      have hadd : (⟨b, 0, none⟩ : Addr).add j = ⟨b, j, none⟩ := by unfold Addr.add; split <;> simp_all
      rw [hadd]; exact hc j v hv)
  cases hq : P.info? ty with
  | none => simp [hq] at hi
  | some i =>
    have hs : i.size = cs.length := by simpa [hq] using hi
    have hagg : (isAgg ty).run P w = .ok true w := by
      unfold isAgg
      rw [Sem.run_bind, run_underlying hu w]
      cases d <;> simp_all
    simp [results, h, hp', asAddr, loadVar, Sem.run_bind, hagg, sizeOf, typeInfo, hq, hs, hl]
end Go.CK
