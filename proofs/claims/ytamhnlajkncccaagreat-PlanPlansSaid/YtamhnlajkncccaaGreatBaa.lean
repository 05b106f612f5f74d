/-
  Texts of this claim joined (wip/gen/bundle.py), those declarations only that are needed: Base Term Data. By an AI agent.
-/
import Derived.WalkKit
import Derived.WalkSpells
import Derived.WalkLawsBesides
import Derived.Lib.Hide
set_option linter.unusedSimpArgs false
set_option linter.unusedVariables false
namespace Go.CK
open Go.RowKit

/-- what a string or a slice may hold; glim: what a call may build -/
def lim : Nat := 140737488355328
def glim : Nat := 4294967296
theorem glim_le {n : Nat} (h : n ≤ glim) : n ≤ lim := by unfold glim at h; unfold lim; omega
def IntOk (n : Int) : Prop := -9223372036854775808 ≤ n ∧ n ≤ 9223372036854775807

theorem IntOk.wf {n : Int} (h : IntOk n) : (Lit.int .i64 n).wf = true := WalkArith.wf_i64 h
theorem IntOk.of_wf {n : Int} (h : (Lit.int .i64 n).wf = true) : IntOk n := by
  simpa [Lit.wf, IntKind.min, IntKind.max, IntKind.signed, IntKind.bits, IntOk] using h
theorem IntOk.wrap (n : Int) : IntOk (wrap64 n) := by
  have := wrap64_wf n
  exact IntOk.of_wf this
structure Ext (w w' : World) : Prop where
  bel : Below w.heap.size w w'

theorem Ext.refl (w : World) : Ext w w := ⟨Below.refl _ _⟩
theorem Ext.size {w w' : World} (h : Ext w w') : w.heap.size ≤ w'.heap.size := h.bel.size
theorem Ext.trans {a b c : World} (h : Ext a b) (k : Ext b c) : Ext a c := ⟨h.bel.trans (k.bel.mono h.size)⟩
theorem Ext.alloc {a b : World} (h : Ext a b) (o : Obj) : Ext a (b.alloc o) := ⟨h.bel.alloc h.size o⟩
theorem Ext.drew {a b : World} (h : Ext a b) : Ext a b.drew := ⟨h.bel.drew⟩
theorem Ext.setCell {a b : World} (h : Ext a b) {p : Addr} (hp : a.heap.size ≤ p.block) (u : Value) : Ext a (b.setCell p u) := ⟨h.bel.setCell hp u⟩
theorem Ext.cell {a b : World} (h : Ext a b) {p : Addr} {v : Value} (hv : a.cell? p = some v) : b.cell? p = some v := by
  rw [h.bel.cell (World.block_lt_of_cell? a p hv)]; exact hv
theorem Ext.frozen {a b : World} (h : Ext a b) {p : Addr} (hp : p.block < a.heap.size) : b.frozen? p = a.frozen? p := h.bel.frozen hp
theorem Ext.grown {a b c : World} {row : Option Nat} (h : Ext a b) (hg : b.grownBy c row) (hr : ∀ k, row = some k → a.heap.size ≤ k) : Ext a c := ⟨h.bel.grown hg h.size hr⟩
theorem Ext.cells {w w' : World} (h : Ext w w') : (∀ b o, b < w.heap.size → w'.cell? ⟨b, o, none⟩ = w.cell? ⟨b, o, none⟩) ∧ (∀ b o, b < w.heap.size → w'.frozen? ⟨b, o, none⟩ = w.frozen? ⟨b, o, none⟩) :=
  ⟨fun b o k => h.bel.cell (p := ⟨b, o, none⟩) k, fun b o k => h.bel.frozen (p := ⟨b, o, none⟩) k⟩

abbrev Hp := Nat → Nat → Option Value
def Hp.le (H H' : Hp) : Prop := ∀ b o v, H b o = some v → H' b o = some v
def Hp.of (w : World) : Hp := fun b o => w.cell? ⟨b, o, none⟩
def Hp.plus (H : Hp) (w w' : World) : Hp := fun b o => if w.heap.size ≤ b then w'.cell? ⟨b, o, none⟩ else H b o
def Hp.row (H : Hp) (w w' : World) (v : Value) : Hp := fun b o => if v.ownBlock = some b then none else H.plus w w' b o

theorem Hp.le_refl (H : Hp) : H.le H := fun _ _ _ h => h
theorem Hp.le_trans {A B C : Hp} (h : A.le B) (k : B.le C) : A.le C := fun _ _ _ x => k _ _ _ (h _ _ _ x)
theorem Hp.lt {H : Hp} {w : World} (h : H.le (Hp.of w)) {b o : Nat} {v : Value} (hv : H b o = some v) : b < w.heap.size := World.block_lt_of_cell? w _ (h _ _ _ hv)
theorem Hp.cell {H : Hp} {w : World} (h : H.le (Hp.of w)) {b o : Nat} {v : Value} (hv : H b o = some v) : w.cell? ⟨b, o, none⟩ = some v := h _ _ _ hv
theorem Hp.of_ext {w w' : World} (h : Ext w w') : (Hp.of w).le (Hp.of w') := fun _ _ _ x => h.cell x
theorem Hp.ext {H : Hp} {w w' : World} (hH : H.le (Hp.of w)) (h : Ext w w') : H.le (Hp.of w') := Hp.le_trans hH (Hp.of_ext h)
theorem Hp.plus_le {H : Hp} {w w' : World} (hH : H.le (Hp.of w)) (h : Ext w w') : (H.plus w w').le (Hp.of w') := fun b o v x => by
  simp only [Hp.plus] at x
  split at x
  · exact x
  · exact (Hp.ext hH h) _ _ _ x
theorem Hp.plus_mono {H : Hp} {w w' w'' : World} (h : Ext w' w'') : (H.plus w w').le (H.plus w w'') := fun b o v x => by
  simp only [Hp.plus] at *
  split at x
  · rename_i hb; rw [if_pos hb]; exact h.cell x
  · rename_i hb; rw [if_neg hb]; exact x
/-- a function's result, in the caller's words -/
theorem Hp.up {H : Hp} {w w1 w2 w3 : World} (h1 : Ext w w1) (h2 : Ext w2 w3) (hH : H.le (Hp.of w)) : (H.plus w1 w2).le (H.plus w w3) := fun b o v x => by
  simp only [Hp.plus] at *
  have := h1.size
  split at x
  · rw [if_pos (by omega)]; exact h2.cell x
  · have := Hp.lt hH x
    rw [if_neg (by omega)]; exact x
theorem Hp.row_ext {H : Hp} {w w' w2 : World} {v : Value} (h2 : Ext w' w2) : (H.row w w' v).le (H.row w w2 v) := fun b o u x => by
  simp only [Hp.row] at x ⊢
  split at x
  · cases x
  · rename_i hb; rw [if_neg hb]; exact Hp.plus_mono h2 _ _ _ x

/-- 'R cs x': the cells cs read as x. -/
structure Sl {α : Type} (H : Hp) (sz : Nat) (R : List Value → α → Prop) (a : Option Addr) (l : List α) : Prop where
  le : l.length ≤ lim
  at_ : ∀ i (h : i < l.length), ∃ b o cs, a = some ⟨b, o, none⟩ ∧ cs.length = sz ∧ (∀ j x, cs[j]? = some x → H b (o + i * sz + j) = some x) ∧ R cs l[i]

theorem Sl.mono {α : Type} {H H' : Hp} {sz : Nat} {R R' : List Value → α → Prop} {a : Option Addr} {l : List α} (h : Sl H sz R a l) (hH : H.le H') (hR : ∀ cs x, x ∈ l → R cs x → R' cs x) : Sl H' sz R' a l :=
  ⟨h.le, fun i hi => let ⟨b, o, cs, h1, h2, h3, h4⟩ := h.at_ i hi; ⟨b, o, cs, h1, h2, fun j x hx => hH _ _ _ (h3 j x hx), hR _ _ (List.getElem_mem hi) h4⟩⟩

theorem Sl.nil {α : Type} {H : Hp} {sz : Nat} {R : List Value → α → Prop} {a : Option Addr} : Sl H sz R a ([] : List α) := ⟨by simp, fun i hi => by cases hi⟩

theorem Sl.addr {α : Type} {H : Hp} {sz : Nat} {R : List Value → α → Prop} {a : Option Addr} {l : List α} (h : Sl H sz R a l) (hl : 0 < l.length) : ∃ b o, a = some ⟨b, o, none⟩ :=
  let ⟨b, o, _, h1, _⟩ := h.at_ 0 hl; ⟨b, o, h1⟩

theorem Sl.get {α : Type} {H : Hp} {sz : Nat} {R : List Value → α → Prop} {b o : Nat} {l : List α} (h : Sl H sz R (some ⟨b, o, none⟩) l) {w : World} (hw : H.le (Hp.of w)) (i : Nat) (hi : i < l.length) :
    ∃ cs, cs.length = sz ∧ (∀ j x, cs[j]? = some x → w.cell? ⟨b, o + i * sz + j, none⟩ = some x) ∧ R cs l[i] := by
  obtain ⟨b', o', cs, h1, h2, h3, h4⟩ := h.at_ i hi
  simp only [Option.some.injEq, Addr.mk.injEq, and_true] at h1
  obtain ⟨rfl, rfl⟩ := h1
  exact ⟨cs, h2, fun j x hx => Hp.cell hw (h3 j x hx), h4⟩

/-- In world w the slice value v owns a row, begun behind w0, whose elements read as l. -/
structure Own {α : Type} (H : Hp) (w0 w : World) (e : TypeId) (sz : Nat) (R : Hp → List Value → α → Prop) (v : Value) (l : List α) : Prop where
  ext : Ext w0 w
  hp : H.le (Hp.of w0)
  row : ∃ xs, w.ownsRow w0.heap.size e sz v l.length xs ∧ ∀ i (h : i < l.length), R (H.row w0 w v) ((xs.drop (i * sz)).take sz) l[i]

/-- R reads no more in less. -/
def Up {α : Type} (R : Hp → List Value → α → Prop) : Prop := ∀ H H' cs x, H.le H' → R H cs x → R H' cs x

section
variable {α : Type} {H : Hp} {w0 w : World} {e : TypeId} {sz : Nat} {R : Hp → List Value → α → Prop} {v : Value} {l : List α}

theorem Own.nil (hp : H.le (Hp.of w0)) (h : Ext w0 w) : Own H w0 w e sz R (.slice none 0 0) ([] : List α) :=
  ⟨h, hp, [], World.ownsRow_nil _ _ _ _, fun i hi => by cases hi⟩

theorem Own.block (h : Own H w0 w e sz R v l) : ∀ k, v.ownBlock = some k → w0.heap.size ≤ k ∧ k < w.heap.size := by
  obtain ⟨xs, hx, _⟩ := h.row
  exact hx.lt

/-- nothing that lay there has turned -/
theorem Own.move {w' : World} (hu : Up R) (h : Own H w0 w e sz R v l) (h' : Ext w w') : Own H w0 w' e sz R v l := by
  obtain ⟨xs, hx, hr⟩ := h.row
  refine ⟨h.ext.trans h', h.hp, xs, ?_, fun i hi => hu _ _ _ _ (Hp.row_ext h') (hr i hi)⟩
  exact hx.kept (row := none) ⟨h'.bel.os, h'.bel.tape, h'.bel.output, h'.size, fun k hk _ => h'.bel.block k hk⟩ (by cases hv : v.ownBlock <;> simp)

end

theorem chunk_append {sz : Nat} {xs ys : List Value} {n : Nat} (hx : xs.length = n * sz) (i : Nat) (hi : i < n) : ((xs ++ ys).drop (i * sz)).take sz = (xs.drop (i * sz)).take sz := by
  have h1 : (i + 1) * sz ≤ n * sz := Nat.mul_le_mul_right _ hi
  have h2 : (i + 1) * sz = i * sz + sz := by rw [Nat.add_mul, Nat.one_mul]
  rw [List.drop_append_of_le_length (by omega), List.take_append_of_le_length (by simp; omega)]

theorem chunk_append_right {sz : Nat} {xs ys : List Value} {n : Nat} (hx : xs.length = n * sz) (i : Nat) : ((xs ++ ys).drop ((n + i) * sz)).take sz = (ys.drop (i * sz)).take sz := by
  rw [Nat.add_mul, ← hx, ← List.drop_drop, List.drop_left]

/-- What an append to a row of one's own leaves: the row is the same one, or a new one. -/
theorem run_append_own2 {P : Program} (w : World) (base : Nat) (t ty e : TypeId) (i : TypeInfo) (z : Value) (size bytes : Nat) (ht : P.underlying t = some (.slice e)) (hi : P.info? e = some i) (hz : i.zero = some z)
    (hsize : i.size = size) (hby : i.bytes = bytes) (hzs : z.cells.size = size)
    (v : Value) (n : Nat) (xs : List Value) (hown : w.ownsRow base e size v n xs)
    (a : Addr) (m c : Nat) (news : List Value) (hl : news.length = m * size) (hnews : ∀ j u, news[j]? = some u → w.cell? (a.add j) = some u) (h1 : ∀ u ∈ news, u.oneCell' = true)
    (h63 : n + m ≤ maxLen) (hbytes : (n + m) * bytes ≤ 140737488355328) (hbase : base ≤ w.heap.size) :
    ∃ v' w', (Builtin.append_ #[t, t] ty #[v, .slice (some a) m c]).run P w = .ok v' w' ∧ w'.ownsRow base e size v' (n + m) (xs ++ news) ∧ w.grownBy w' v.ownBlock ∧
      (v'.ownBlock = v.ownBlock ∨ ∀ k, v'.ownBlock = some k → w.heap.size ≤ k) := by
  subst hsize
  subst hby
  have hsmall : n + m ≤ 9223372036854775807 := by simp only [maxLen] at h63; omega
  have hlen : (xs ++ news).length = (n + m) * i.size := by rw [List.length_append, hown.1, hl, Nat.add_mul]
  have grown : ∀ (old : Nat), old < n + m → ∀ (row : Option Nat),
      (w.drew.alloc (.cells (xs.toArray ++ news.toArray ++ Builtin.zeroCells z.cells (grownCap w (n + m) old e - (n + m))) e)).ownsRow base e i.size
        (.slice (some ⟨w.heap.size, 0, none⟩) (n + m) (grownCap w (n + m) old e)) (n + m) (xs ++ news) ∧
      w.grownBy (w.drew.alloc (.cells (xs.toArray ++ news.toArray ++ Builtin.zeroCells z.cells (grownCap w (n + m) old e - (n + m))) e)) row := by
    intro old ho row
    have hge := grownCap_ge w (n + m) old e
    have hcm : grownCap w (n + m) old e ≤ maxLen := grownCap_le_maxLen w (n + m) old e h63
    refine ⟨⟨hlen, .inr ⟨w.heap.size, _, _, rfl, hbase, heap_alloc_new w.drew _, hge, hcm, ?_, ?_⟩⟩, ⟨rfl, rfl, rfl, by simp, fun k hk _ => Below.heap_alloc w.drew _ k hk⟩⟩
    · simp only [Array.size_append, List.size_toArray, size_zeroCells, hzs, hown.1, hl, ← Nat.add_mul]
      congr 1
      omega
    · simp only [Array.toList_append, List.append_assoc]
      rw [← List.append_assoc, ← hlen]
      exact List.take_left
  rcases hown.2 with ⟨rfl, rfl⟩ | ⟨g, cap, cur, rfl, hbg, hg, hnc, hcm, hcs, htake⟩
  · have hx : xs = [] := List.eq_nil_of_length_eq_zero (by simpa using hown.1)
    subst hx
    by_cases hm : m = 0
    · subst hm
      have hn : news = [] := List.eq_nil_of_length_eq_zero (by simpa using hl)
      subst hn
      refine ⟨.slice none 0 0, w, ?_, World.ownsRow_nil w base e i.size, ⟨rfl, rfl, rfl, Nat.le_refl _, fun _ _ _ => rfl⟩, .inl rfl⟩
      simp [Builtin.append_, run_underlying ht, sizeOf, typeInfo, hi, Builtin.lenOf, Builtin.firstCells, loadCells, loadCellsFrom]
    · have hr := run_append_nil (P := P) w t ty e i z ht hi hz a m c news hl hnews (by omega) (by omega) (by have hb := hbytes; simp only [Nat.zero_add] at hb; omega)
      have hgr := grown 0 (by omega) (Value.ownBlock (.slice none 0 0))
      simp only [Nat.zero_add, List.nil_append, Array.empty_append] at hgr ⊢
      exact ⟨_, _, hr, hgr.1, hgr.2, .inr fun k hk => by simp [Value.ownBlock] at hk; omega⟩
  · by_cases hroom : n + m ≤ cap
    · have hfit : n * i.size + news.length ≤ cur.size := by rw [hl, hcs, ← Nat.add_mul]; exact Nat.mul_le_mul_right _ hroom
      have hr := run_append_room (P := P) w t ty e i ht hi g n cap cur hg a m c news hl hnews h1 hroom hfit
      refine ⟨_, _, hr, ⟨hlen, .inr ⟨g, cap, _, rfl, hbg, setRow_heap w g cur _ e _ hg, hroom, hcm, ?_, ?_⟩⟩, ⟨rfl, rfl, rfl, by simp, fun k _ hk => setRow_other w g k _ (fun e => hk (by simp [Value.ownBlock, e]))⟩, .inl rfl⟩
      · simp only [List.size_toArray, List.length_append, List.length_take, List.length_drop, Array.length_toList]
        omega
      · rw [htake, ← hlen]
        exact List.take_left
    · have holds : ∀ j u, xs[j]? = some u → w.cell? ((⟨g, 0, none⟩ : Addr).add j) = some u := hown.cells (g := g) rfl
      have hr := run_append_grow (P := P) w t ty e i z ht hi hz ⟨g, 0, none⟩ n cap xs hown.1 holds a m c news hl hnews (by omega) (by omega) (growslice_fits (by omega) hbytes)
      have hgr := grown cap (by omega) (Value.ownBlock (.slice (some ⟨g, 0, none⟩) n cap))
      exact ⟨_, _, hr, hgr.1, hgr.2, .inr fun k hk => by simp [Value.ownBlock] at hk; omega⟩

/-- 'out = append(out, ys...)': ys' cells lie at 'ad'. -/
theorem Own.append {α : Type} {H : Hp} {w0 w : World} {e : TypeId} {sz : Nat} {R : Hp → List Value → α → Prop} {v : Value} {l : List α} {P : Program} (hu : Up R)
    (t ty : TypeId) (i : TypeInfo) (z : Value) (bytes : Nat) (ht : P.underlying t = some (.slice e)) (hi : P.info? e = some i) (hz : i.zero = some z)
    (hsize : i.size = sz) (hby : i.bytes = bytes) (hzs : z.cells.size = sz) (h : Own H w0 w e sz R v l)
    (ys : List α) (a : Addr) (c : Nat) (news : List Value) (hl : news.length = ys.length * sz) (hnews : ∀ j u, news[j]? = some u → w.cell? (a.add j) = some u) (h1 : ∀ u ∈ news, u.oneCell' = true)
    (hr : ∀ i (hi : i < ys.length), R (H.row w0 w v) ((news.drop (i * sz)).take sz) ys[i]) (hlen : l.length + ys.length ≤ glim) (hb : bytes ≤ 4096) :
    ∃ v' w', (Builtin.append_ #[t, t] ty #[v, .slice (some a) ys.length c]).run P w = .ok v' w' ∧ Own H w0 w' e sz R v' (l ++ ys) ∧ w.grownBy w' v.ownBlock := by
  obtain ⟨xs, hx, hxr⟩ := h.row
  have hbytes : (l.length + ys.length) * bytes ≤ 140737488355328 := by
    have := Nat.mul_le_mul hlen hb
    ((try unfold glim at this);(try unfold lim at this)); omega
  obtain ⟨v', w', hrun, hown, hg, hv⟩ := run_append_own2 (P := P) w w0.heap.size t ty e i z sz bytes ht hi hz hsize hby hzs v l.length xs hx a ys.length c news hl hnews h1 (by ((try unfold glim at hlen);(try unfold lim at hlen)); unfold maxLen; omega) hbytes h.ext.size
  have hblk := h.block
  have hle : (H.row w0 w v).le (H.row w0 w' v') := by
    intro b o u hbo
    simp only [Hp.row] at hbo ⊢
    split at hbo
    · cases hbo
    · rename_i hne
      have hb' : v'.ownBlock ≠ some b := by
        intro he
        rcases hv with hv | hv
        · rw [hv] at he; exact hne he
        · have h2 := hv _ he
          have h3 : b < w.heap.size := Hp.lt (Hp.plus_le h.hp h.ext) hbo
          omega
      rw [if_neg hb']
      simp only [Hp.plus] at hbo ⊢
      split at hbo
      · rename_i hge
        rw [if_pos hge]
        exact hg.cell hbo (fun e => hne e.symm)
      · rename_i hge; rw [if_neg hge]; exact hbo
  refine ⟨v', w', hrun, ⟨h.ext.grown hg (fun k hk => (hblk k hk).1), h.hp, xs ++ news, by rw [List.length_append]; exact hown, ?_⟩, hg⟩
  intro j hj
  rw [List.length_append] at hj
  by_cases hjl : j < l.length
  · rw [chunk_append hx.1 j hjl, List.getElem_append_left hjl]
    exact hu _ _ _ _ hle (hxr j hjl)
  · obtain ⟨k, rfl⟩ : ∃ k, j = l.length + k := ⟨j - l.length, by omega⟩
    rw [chunk_append_right hx.1 k, List.getElem_append_right (by omega)]
    simp only [Nat.add_sub_cancel_left]
    exact hu _ _ _ _ hle (hr k (by omega))

def setCs (w : World) (g : Nat) : Nat → List Value → World
  | _, [] => w
  | o, c :: cs => setCs (w.setCell ⟨g, o, none⟩ c) g (o + 1) cs

def setL (xs : List Value) : Nat → List Value → List Value
  | _, [] => xs
  | o, c :: cs => setL (xs.set o c) (o + 1) cs

theorem setL_get : ∀ (cs xs : List Value) (o j : Nat), o + cs.length ≤ xs.length → (setL xs o cs)[j]? = if o ≤ j ∧ j < o + cs.length then cs[j - o]? else xs[j]?
  | [], xs, o, j, _ => by simp [setL]; intro h1 h2; omega
  | c :: cs, xs, o, j, h => by
    simp only [List.length_cons] at h
    rw [setL, setL_get cs (xs.set o c) (o + 1) j (by simp; omega), List.getElem?_set]
    by_cases h1 : o = j
    · subst h1
      rw [if_neg (by omega), if_pos rfl, if_pos (by omega), if_pos (by simp)]
      simp
    · by_cases h2 : o + 1 ≤ j ∧ j < o + 1 + cs.length
      · rw [if_pos h2, if_pos (by simp; omega), show j - o = (j - (o + 1)) + 1 from by omega]
        simp
      · rw [if_neg h2, if_neg h1, if_neg (by simp; omega)]

theorem chunk_setL {sz n : Nat} {xs cs : List Value} (hx : xs.length = n * sz) (hc : cs.length = sz) (j i : Nat) (hj : j < n) : ((setL xs (j * sz) cs).drop (i * sz)).take sz = if i = j then cs else (xs.drop (i * sz)).take sz := by
  have h1 : (j + 1) * sz ≤ n * sz := Nat.mul_le_mul_right _ hj
  have h2 : (j + 1) * sz = j * sz + sz := by rw [Nat.add_mul, Nat.one_mul]
  apply List.ext_getElem?
  intro k
  rw [List.getElem?_take]
  split
  · rename_i hk
    rw [List.getElem?_drop, setL_get cs xs (j * sz) _ (by omega)]
    by_cases hij : i = j
    · subst hij
      rw [if_pos rfl, if_pos (by omega)]
      congr 1; omega
    · rw [if_neg hij]
      have : ¬ (j * sz ≤ i * sz + k ∧ i * sz + k < j * sz + cs.length) := by
        rcases Nat.lt_or_gt_of_ne hij with h | h
        · have h3 : (i + 1) * sz ≤ j * sz := Nat.mul_le_mul_right _ h
          have h4 : (i + 1) * sz = i * sz + sz := by rw [Nat.add_mul, Nat.one_mul]
          omega
        · have h3 : (j + 1) * sz ≤ i * sz := Nat.mul_le_mul_right _ h
          omega
      rw [if_neg this, List.getElem?_take, if_pos hk, List.getElem?_drop]
  · rename_i hk
    by_cases hij : i = j
    · rw [if_pos hij, List.getElem?_eq_none (by omega)]
    · rw [if_neg hij, List.getElem?_take, if_neg hk]

theorem setCs_own {base : Nat} {e : TypeId} {size g n cap : Nat} : ∀ (cs xs : List Value) (o : Nat) (w : World), w.ownsRow base e size (.slice (some ⟨g, 0, none⟩) n cap) n xs →
    (setCs w g o cs).ownsRow base e size (.slice (some ⟨g, 0, none⟩) n cap) n (setL xs o cs) ∧ w.grownBy (setCs w g o cs) (some g)
  | [], xs, o, w, h => ⟨h, World.grownBy.refl _ _⟩
  | c :: cs, xs, o, w, h => by
    obtain ⟨h1, h2⟩ := h.stored o c
    obtain ⟨h3, h4⟩ := setCs_own cs (xs.set o c) (o + 1) (w.setCell ⟨g, o, none⟩ c) h1
    exact ⟨h3, ⟨h4.os.trans h2.os, h4.tape.trans h2.tape, h4.output.trans h2.output, Nat.le_trans h2.size h4.size, fun k hk hne => (h4.block k (Nat.lt_of_lt_of_le hk h2.size) hne).trans (h2.block k hk hne)⟩⟩

section
variable {α : Type} {H : Hp} {w0 w : World} {e : TypeId} {sz : Nat} {R : Hp → List Value → α → Prop} {l : List α} {g cap : Nat}

/-- the cells of one's own row are there and not frozen -/
theorem Own.slot {n : Nat} (h : Own H w0 w e sz R (.slice (some ⟨g, 0, none⟩) n cap) l) (hn : n = l.length) (j : Nat) (hj : j < l.length * sz) : (∃ u, w.cell? ⟨g, j, none⟩ = some u) ∧ w.frozen? ⟨g, j, none⟩ = false := by
  subst hn
  obtain ⟨xs, hx, _⟩ := h.row
  have h1 := hx.cellAt j hj
  rw [List.getElem?_eq_getElem (by rw [hx.1]; exact hj)] at h1
  exact ⟨⟨_, h1⟩, hx.frozenAt j⟩

/-- a store of one element into one's own row -/
theorem Own.set {n : Nat} (hu : Up R) (h : Own H w0 w e sz R (.slice (some ⟨g, 0, none⟩) n cap) l) (hn : n = l.length) (j : Nat) (hj : j < l.length) (cs : List Value) (hc : cs.length = sz) (x : α) (hr : R (H.row w0 w (.slice (some ⟨g, 0, none⟩) n cap)) cs x) :
    Own H w0 (setCs w g (j * sz) cs) e sz R (.slice (some ⟨g, 0, none⟩) n cap) (l.set j x) := by
  subst hn
  obtain ⟨xs, hx, hxr⟩ := h.row
  obtain ⟨h1, h2⟩ := setCs_own cs xs (j * sz) w hx
  have hb := h.block g rfl
  have hle : (H.row w0 w (.slice (some ⟨g, 0, none⟩) l.length cap)).le (H.row w0 (setCs w g (j * sz) cs) (.slice (some ⟨g, 0, none⟩) l.length cap)) := by
    intro b o u hbo
    simp only [Hp.row] at hbo ⊢
    split at hbo
    · cases hbo
    · rename_i hne
      rw [if_neg hne]
      simp only [Hp.plus] at hbo ⊢
      split at hbo
      · rename_i hge; rw [if_pos hge]
        exact h2.cell hbo (by simp only [Value.ownBlock] at hne; exact fun e => hne e.symm)
      · rename_i hge; rw [if_neg hge]; exact hbo
  refine ⟨h.ext.grown h2 (fun k hk => by cases hk; exact hb.1), h.hp, setL xs (j * sz) cs, by rw [List.length_set]; exact h1, ?_⟩
  intro i hi
  rw [List.length_set] at hi
  rw [chunk_setL hx.1 hc j i hj, List.getElem_set]
  by_cases hij : j = i
  · subst hij
    rw [if_pos rfl, if_pos rfl]
    exact hu _ _ _ _ hle hr
  · rw [if_neg (fun e => hij e.symm), if_neg hij]
    exact hu _ _ _ _ hle (hxr i hi)
end

theorem cell_set (w : World) (b j b' j' : Nat) (v : Value) : (w.setCell ⟨b, j, none⟩ v).cell? ⟨b', j', none⟩ = if b = b' ∧ j = j' then (if (w.cell? ⟨b, j, none⟩).isSome then some v else none) else w.cell? ⟨b', j', none⟩ := by
  split
  · rename_i h
    obtain ⟨rfl, rfl⟩ := h
    split
    · rename_i hs; exact World.cell?_setCell_same' _ _ _ hs
    · rename_i hs
      have hn : w.cell? ⟨b, j, none⟩ = none := by simpa using hs
      cases hq : (w.setCell ⟨b, j, none⟩ v).cell? ⟨b, j, none⟩ with
      | none => rfl
      | some u =>
        exfalso
        revert hq
        simp only [World.cell?, World.setCell, Array.getElem?_modify] at hn ⊢
        cases hb : w.heap[b]? with
        | none => simp
        | some o =>
          rw [hb] at hn
          cases o <;> simp_all
  · rename_i h
    exact World.cell?_setCell_other _ _ _ _ (by simp; exact fun e => fun f => h ⟨e, f⟩)

end Go.CK

namespace Go.CK
open Go.RowKit

inductive Tm where
  | mk (kind num : Int) (name : ByteArray) (args : List Tm)

namespace Tm
def kind : Tm → Int | .mk k _ _ _ => k
def num : Tm → Int | .mk _ n _ _ => n
def name : Tm → ByteArray | .mk _ _ s _ => s
def args : Tm → List Tm | .mk _ _ _ l => l

mutual
def beq : Tm → Tm → Bool
  | .mk k n s l, .mk k' n' s' l' => decide (k = k') && (decide (n = n') && (decide (s = s') && beqs l l'))
def beqs : List Tm → List Tm → Bool
  | [], [] => true
  | a :: l, b :: m => beq a b && beqs l m
  | _, _ => false
end

mutual
theorem beq_iff : ∀ a b : Tm, beq a b = true ↔ a = b
  | .mk k n s l, .mk k' n' s' l' => by
    simp only [beq, Bool.and_eq_true, decide_eq_true_eq, beqs_iff l l', Tm.mk.injEq]
theorem beqs_iff : ∀ l m : List Tm, beqs l m = true ↔ l = m
  | [], [] => by simp [beqs]
  | [], _ :: _ => by simp [beqs]
  | _ :: _, [] => by simp [beqs]
  | a :: l, b :: m => by simp [beqs, beq_iff a b, beqs_iff l m]
end

instance : DecidableEq Tm := fun a b => decidable_of_iff (beq a b = true) (beq_iff a b)

end Tm

mutual
theorem Tm.ind_all {p : Tm → Prop} (h : ∀ k n s l, (∀ t ∈ l, p t) → p (.mk k n s l)) : ∀ t, p t
  | .mk k n s l => h k n s l (Tm.ind_list h l)
theorem Tm.ind_list {p : Tm → Prop} (h : ∀ k n s l, (∀ t ∈ l, p t) → p (.mk k n s l)) : ∀ l : List Tm, ∀ t ∈ l, p t
  | [], _, ht => by cases ht
  | a :: l, t, ht => by
    exact (List.mem_cons.1 ht).elim (fun e => e ▸ Tm.ind_all h a) (fun h1 => Tm.ind_list h l t h1)
end
theorem toList_inj {s t : ByteArray} : s.toList = t.toList ↔ s = t := by
  rw [ByteArray.toList_eq, ByteArray.toList_eq]
  exact ⟨fun h => ByteArray.ext (Array.toList_inj.mp h), fun h => by rw [h]⟩

/-- cs read as a term. -/
inductive RTm (H : Hp) : List Value → Tm → Prop
  | mk (k n : Int) (s : ByteArray) (a : Option Addr) (cap : Nat) (args : List Tm) (es : Nat → List Value) (bo : Nat × Nat)
    (hk : IntOk k) (hn : IntOk n) (hs : s.size ≤ lim) (hl : args.length ≤ lim) (hc : args.length ≤ cap) (ha : 0 < args.length → a = some ⟨bo.1, bo.2, none⟩)
    (hsz : ∀ i, i < args.length → (es i).length = 4) (hcell : ∀ i, i < args.length → ∀ j x, (es i)[j]? = some x → H bo.1 (bo.2 + i * 4 + j) = some x)
    (hr : ∀ i (h : i < args.length), RTm H (es i) args[i]) :
    RTm H [.int .i64 k, .int .i64 n, .string s, .slice a args.length cap] (.mk k n s args)

/-- what a slice of terms is -/
abbrev RTms (H : Hp) (a : Option Addr) (l : List Tm) : Prop := Sl H 4 (RTm H) a l

theorem RTm.inv {H : Hp} {cs : List Value} {k n : Int} {s : ByteArray} {l : List Tm} (h : RTm H cs (.mk k n s l)) :
    ∃ a cap, cs = [.int .i64 k, .int .i64 n, .string s, .slice a l.length cap] ∧ IntOk k ∧ IntOk n ∧ s.size ≤ lim ∧ l.length ≤ cap ∧ RTms H a l := by
  cases h with
  | mk k n s a cap args es bo hk hn hs hl hc ha hsz hcell hr =>
    exact ⟨a, cap, rfl, hk, hn, hs, hc, ⟨hl, fun i hi => ⟨bo.1, bo.2, es i, ha (by omega), hsz i hi, hcell i hi, hr i hi⟩⟩⟩

theorem RTm.intro {H : Hp} {k n : Int} {s : ByteArray} {a : Option Addr} {cap : Nat} {l : List Tm} (hk : IntOk k) (hn : IntOk n) (hs : s.size ≤ lim) (hc : l.length ≤ cap) (h : RTms H a l) :
    RTm H [.int .i64 k, .int .i64 n, .string s, .slice a l.length cap] (.mk k n s l) := by
  by_cases h0 : 0 < l.length
  · obtain ⟨b, o, ha⟩ := h.addr h0
    subst ha
    have hx : ∀ i, ∃ cs : List Value, i < l.length → cs.length = 4 ∧ (∀ j x, cs[j]? = some x → H b (o + i * 4 + j) = some x) ∧ ∀ hi : i < l.length, RTm H cs l[i] := by
      intro i
      by_cases hi : i < l.length
      · obtain ⟨b', o', cs, h1, h2, h3, h4⟩ := h.at_ i hi
        simp only [Option.some.injEq, Addr.mk.injEq, and_true] at h1
        obtain ⟨rfl, rfl⟩ := h1
        exact ⟨cs, fun _ => ⟨h2, h3, fun _ => h4⟩⟩
      · exact ⟨[], fun e => (hi e).elim⟩
    exact .mk k n s _ cap l (fun i => (hx i).choose) (b, o) hk hn hs h.le hc (fun _ => rfl) (fun i hi => ((hx i).choose_spec hi).1) (fun i hi => ((hx i).choose_spec hi).2.1) (fun i hi => ((hx i).choose_spec hi).2.2 hi)
  · exact .mk k n s a cap l (fun _ => []) (0, 0) hk hn hs h.le hc (fun e => (h0 e).elim) (fun i hi => by omega) (fun i hi => by omega) (fun i hi => by omega)

theorem RTm.mono {H H' : Hp} (hH : H.le H') : ∀ {cs : List Value} {t : Tm}, RTm H cs t → RTm H' cs t := by
  intro cs t h
  induction h with
  | mk k n s a cap args es bo hk hn hs hl hc ha hsz hcell hr ih =>
    exact .mk k n s a cap args es bo hk hn hs hl hc ha hsz (fun i hi j x hx => hH _ _ _ (hcell i hi j x hx)) ih

theorem RTms.mono {H H' : Hp} (hH : H.le H') {a : Option Addr} {l : List Tm} (h : RTms H a l) : RTms H' a l := Sl.mono h hH fun _ _ _ => RTm.mono hH

theorem up_RTm : Up RTm := fun _ _ _ _ h => RTm.mono h

theorem RTm.one {H : Hp} {cs : List Value} {t : Tm} (h : RTm H cs t) : ∀ u ∈ cs, u.oneCell' = true := by
  cases h; simp [Value.oneCell']

end Go.CK

namespace Go.CK
open Go.RowKit

def RInt (_ : Hp) (c : List Value) (n : Int) : Prop := c = [.int .i64 n] ∧ IntOk n
def RStr (_ : Hp) (c : List Value) (s : ByteArray) : Prop := c = [.string s] ∧ s.size ≤ lim
def RBool (_ : Hp) (c : List Value) (b : Bool) : Prop := c = [.bool b]
theorem RInt.mono {H H' : Hp} (_h : H.le H') {c : List Value} {n : Int} (x : RInt H c n) : RInt H' c n := x
theorem RStr.mono {H H' : Hp} (_h : H.le H') {c : List Value} {n : ByteArray} (x : RStr H c n) : RStr H' c n := x
theorem RBool.mono {H H' : Hp} (_h : H.le H') {c : List Value} {n : Bool} (x : RBool H c n) : RBool H' c n := x
theorem up_RInt : Up RInt := fun _ _ _ _ h => RInt.mono h
/-- a slice value -/
def RSl {α : Type} (sz : Nat) (R : Hp → List Value → α → Prop) (H : Hp) (c : List Value) (l : List α) : Prop := ∃ a k, c = [.slice a l.length k] ∧ l.length ≤ k ∧ Sl H sz (R H) a l
theorem RSl.mono {α : Type} {sz : Nat} {R : Hp → List Value → α → Prop} (hu : Up R) {H H' : Hp} (h : H.le H') {c : List Value} {l : List α} (x : RSl sz R H c l) : RSl sz R H' c l :=
  let ⟨a, k, e, h1, h2⟩ := x; ⟨a, k, e, h1, h2.mono h fun _ _ _ => hu _ _ _ _ h⟩
theorem up_RSl {α : Type} {sz : Nat} {R : Hp → List Value → α → Prop} (hu : Up R) : Up (RSl sz R) := fun _ _ _ _ h => RSl.mono hu h
abbrev RInts := RSl 1 RInt
theorem RTm.len {H : Hp} {c : List Value} {t : Tm} (h : RTm H c t) : c.length = 4 := by cases h; rfl
theorem up_RInts : Up RInts := up_RSl up_RInt

@[ext] structure At where
  name : ByteArray
  args : List Tm
deriving DecidableEq
def RAt (H : Hp) (c : List Value) (x : At) : Prop := ∃ a1 k1, c = [.string x.name, .slice a1 x.args.length k1] ∧ x.name.size ≤ lim ∧ x.args.length ≤ k1 ∧ Sl H 4 (RTm H) a1 x.args
theorem RAt.mono {H H' : Hp} (hH : H.le H') {c : List Value} {x : At} (h : RAt H c x) : RAt H' c x :=
  let ⟨a1, k1, e, h0, h1, h2⟩ := h; ⟨a1, k1, e, h0, h1, h2.mono hH fun _ _ _ => up_RTm _ _ _ _ hH⟩
theorem up_RAt : Up RAt := fun _ _ _ _ h => RAt.mono h
theorem RAt.one {H : Hp} {c : List Value} {x : At} (h : RAt H c x) : ∀ u ∈ c, u.oneCell' = true := by
  obtain ⟨a1, k1, rfl, _h0, _h1, _h2⟩ := h
  simp [Value.oneCell']
theorem RAt.len {H : Hp} {c : List Value} {x : At} (h : RAt H c x) : c.length = 2 := by
  obtain ⟨a1, k1, rfl, _h0, _h1, _h2⟩ := h
  rfl

@[ext] structure Gl where
  op : Int
  name : ByteArray
  args : List Tm
deriving DecidableEq
def RGl (H : Hp) (c : List Value) (x : Gl) : Prop := ∃ a1 k1, c = [.int .i64 x.op, .string x.name, .slice a1 x.args.length k1] ∧ IntOk x.op ∧ x.name.size ≤ lim ∧ x.args.length ≤ k1 ∧ Sl H 4 (RTm H) a1 x.args
theorem RGl.mono {H H' : Hp} (hH : H.le H') {c : List Value} {x : Gl} (h : RGl H c x) : RGl H' c x :=
  let ⟨a1, k1, e, h0, h1, h2, h3⟩ := h; ⟨a1, k1, e, h0, h1, h2, h3.mono hH fun _ _ _ => up_RTm _ _ _ _ hH⟩
theorem up_RGl : Up RGl := fun _ _ _ _ h => RGl.mono h
theorem RGl.one {H : Hp} {c : List Value} {x : Gl} (h : RGl H c x) : ∀ u ∈ c, u.oneCell' = true := by
  obtain ⟨a1, k1, rfl, _h0, _h1, _h2, _h3⟩ := h
  simp [Value.oneCell']
theorem RGl.len {H : Hp} {c : List Value} {x : Gl} (h : RGl H c x) : c.length = 3 := by
  obtain ⟨a1, k1, rfl, _h0, _h1, _h2, _h3⟩ := h
  rfl

@[ext] structure Dc where
  name : ByteArray
  arity : Int
deriving DecidableEq
def RDc (_H : Hp) (c : List Value) (x : Dc) : Prop := c = [.string x.name, .int .i64 x.arity] ∧ x.name.size ≤ lim ∧ IntOk x.arity
theorem RDc.mono {H H' : Hp} (_hH : H.le H') {c : List Value} {x : Dc} (h : RDc H c x) : RDc H' c x :=
  let ⟨e, h0, h1⟩ := h; ⟨e, h0, h1⟩
theorem up_RDc : Up RDc := fun _ _ _ _ h => RDc.mono h
theorem RDc.one {H : Hp} {c : List Value} {x : Dc} (h : RDc H c x) : ∀ u ∈ c, u.oneCell' = true := by
  obtain ⟨rfl, _h0, _h1⟩ := h
  simp [Value.oneCell']
theorem RDc.len {H : Hp} {c : List Value} {x : Dc} (h : RDc H c x) : c.length = 2 := by
  obtain ⟨rfl, _h0, _h1⟩ := h
  rfl

@[ext] structure Rl where
  name : ByteArray
  keep : List At
  remove : List At
  guard : List Gl
  body : List Gl
  vars : Int
deriving DecidableEq
def RRl (H : Hp) (c : List Value) (x : Rl) : Prop := ∃ a1 k1 a2 k2 a3 k3 a4 k4, c = [.string x.name, .slice a1 x.keep.length k1, .slice a2 x.remove.length k2, .slice a3 x.guard.length k3, .slice a4 x.body.length k4, .int .i64 x.vars] ∧ x.name.size ≤ lim ∧ x.keep.length ≤ k1 ∧ Sl H 2 (RAt H) a1 x.keep ∧ x.remove.length ≤ k2 ∧ Sl H 2 (RAt H) a2 x.remove ∧ x.guard.length ≤ k3 ∧ Sl H 3 (RGl H) a3 x.guard ∧ x.body.length ≤ k4 ∧ Sl H 3 (RGl H) a4 x.body ∧ IntOk x.vars
theorem RRl.mono {H H' : Hp} (hH : H.le H') {c : List Value} {x : Rl} (h : RRl H c x) : RRl H' c x :=
  let ⟨a1, k1, a2, k2, a3, k3, a4, k4, e, h0, h1, h2, h3, h4, h5, h6, h7, h8, h9⟩ := h; ⟨a1, k1, a2, k2, a3, k3, a4, k4, e, h0, h1, h2.mono hH fun _ _ _ => up_RAt _ _ _ _ hH, h3, h4.mono hH fun _ _ _ => up_RAt _ _ _ _ hH, h5, h6.mono hH fun _ _ _ => up_RGl _ _ _ _ hH, h7, h8.mono hH fun _ _ _ => up_RGl _ _ _ _ hH, h9⟩
theorem up_RRl : Up RRl := fun _ _ _ _ h => RRl.mono h
theorem RRl.one {H : Hp} {c : List Value} {x : Rl} (h : RRl H c x) : ∀ u ∈ c, u.oneCell' = true := by
  obtain ⟨a1, k1, a2, k2, a3, k3, a4, k4, rfl, _h0, _h1, _h2, _h3, _h4, _h5, _h6, _h7, _h8, _h9⟩ := h
  simp [Value.oneCell']
theorem RRl.len {H : Hp} {c : List Value} {x : Rl} (h : RRl H c x) : c.length = 6 := by
  obtain ⟨a1, k1, a2, k2, a3, k3, a4, k4, rfl, _h0, _h1, _h2, _h3, _h4, _h5, _h6, _h7, _h8, _h9⟩ := h
  rfl

@[ext] structure Pg where
  decls : List Dc
  rules : List Rl
deriving DecidableEq
def RPg (H : Hp) (c : List Value) (x : Pg) : Prop := ∃ a1 k1 a2 k2, c = [.slice a1 x.decls.length k1, .slice a2 x.rules.length k2] ∧ x.decls.length ≤ k1 ∧ Sl H 2 (RDc H) a1 x.decls ∧ x.rules.length ≤ k2 ∧ Sl H 6 (RRl H) a2 x.rules
theorem RPg.mono {H H' : Hp} (hH : H.le H') {c : List Value} {x : Pg} (h : RPg H c x) : RPg H' c x :=
  let ⟨a1, k1, a2, k2, e, h0, h1, h2, h3⟩ := h; ⟨a1, k1, a2, k2, e, h0, h1.mono hH fun _ _ _ => up_RDc _ _ _ _ hH, h2, h3.mono hH fun _ _ _ => up_RRl _ _ _ _ hH⟩
theorem RPg.one {H : Hp} {c : List Value} {x : Pg} (h : RPg H c x) : ∀ u ∈ c, u.oneCell' = true := by
  obtain ⟨a1, k1, a2, k2, rfl, _h0, _h1, _h2, _h3⟩ := h
  simp [Value.oneCell']
theorem RPg.len {H : Hp} {c : List Value} {x : Pg} (h : RPg H c x) : c.length = 2 := by
  obtain ⟨a1, k1, a2, k2, rfl, _h0, _h1, _h2, _h3⟩ := h
  rfl

@[ext] structure Oc where
  rule : Int
  head : Int
  kept : Bool
deriving DecidableEq
def ROc (_H : Hp) (c : List Value) (x : Oc) : Prop := c = [.int .i64 x.rule, .int .i64 x.head, .bool x.kept] ∧ IntOk x.rule ∧ IntOk x.head
theorem ROc.mono {H H' : Hp} (_hH : H.le H') {c : List Value} {x : Oc} (h : ROc H c x) : ROc H' c x :=
  let ⟨e, h0, h1⟩ := h; ⟨e, h0, h1⟩
theorem ROc.one {H : Hp} {c : List Value} {x : Oc} (h : ROc H c x) : ∀ u ∈ c, u.oneCell' = true := by
  obtain ⟨rfl, _h0, _h1⟩ := h
  simp [Value.oneCell']
theorem ROc.len {H : Hp} {c : List Value} {x : Oc} (h : ROc H c x) : c.length = 3 := by
  obtain ⟨rfl, _h0, _h1⟩ := h
  rfl

@[ext] structure Bd where
  var : Int
  term : Tm
deriving DecidableEq
def RBd (H : Hp) (c : List Value) (x : Bd) : Prop := ∃ c1, c = [.int .i64 x.var] ++ c1 ∧ IntOk x.var ∧ RTm H c1 x.term
theorem RBd.mono {H H' : Hp} (hH : H.le H') {c : List Value} {x : Bd} (h : RBd H c x) : RBd H' c x :=
  let ⟨c1, e, h0, h1⟩ := h; ⟨c1, e, h0, h1.mono hH⟩
theorem RBd.one {H : Hp} {c : List Value} {x : Bd} (h : RBd H c x) : ∀ u ∈ c, u.oneCell' = true := by
  obtain ⟨c1, rfl, _h0, _h1⟩ := h
  have q0 := _h1.one
  intro u hu
  simp only [List.mem_append, List.mem_cons, List.not_mem_nil, or_false] at hu
  rcases hu with hu | hu
  all_goals first | exact q0 u hu | (subst hu; rfl) | (rcases hu with hu | hu <;> subst hu <;> rfl) | (rcases hu with hu | hu | hu <;> subst hu <;> rfl)

theorem RBd.len {H : Hp} {c : List Value} {x : Bd} (h : RBd H c x) : c.length = 5 := by
  obtain ⟨c1, rfl, _h0, _h1⟩ := h
  simp [_h1.len]

@[ext] structure It where
  id : Int
  atom : At
deriving DecidableEq
def RIt (H : Hp) (c : List Value) (x : It) : Prop := ∃ c1, c = [.int .i64 x.id] ++ c1 ∧ IntOk x.id ∧ RAt H c1 x.atom
theorem RIt.mono {H H' : Hp} (hH : H.le H') {c : List Value} {x : It} (h : RIt H c x) : RIt H' c x :=
  let ⟨c1, e, h0, h1⟩ := h; ⟨c1, e, h0, h1.mono hH⟩
theorem RIt.one {H : Hp} {c : List Value} {x : It} (h : RIt H c x) : ∀ u ∈ c, u.oneCell' = true := by
  obtain ⟨c1, rfl, _h0, _h1⟩ := h
  have q0 := _h1.one
  intro u hu
  simp only [List.mem_append, List.mem_cons, List.not_mem_nil, or_false] at hu
  rcases hu with hu | hu
  all_goals first | exact q0 u hu | (subst hu; rfl) | (rcases hu with hu | hu <;> subst hu <;> rfl) | (rcases hu with hu | hu | hu <;> subst hu <;> rfl)

theorem RIt.len {H : Hp} {c : List Value} {x : It} (h : RIt H c x) : c.length = 3 := by
  obtain ⟨c1, rfl, _h0, _h1⟩ := h
  simp [_h1.len]

@[ext] structure Ft where
  id : Int
  atom : At
  just : List Int
deriving DecidableEq
def RFt (H : Hp) (c : List Value) (x : Ft) : Prop := ∃ c1 a2 k2, c = [.int .i64 x.id] ++ c1 ++ [.slice a2 x.just.length k2] ∧ IntOk x.id ∧ RAt H c1 x.atom ∧ x.just.length ≤ k2 ∧ Sl H 1 (RInt H) a2 x.just
theorem RFt.mono {H H' : Hp} (hH : H.le H') {c : List Value} {x : Ft} (h : RFt H c x) : RFt H' c x :=
  let ⟨c1, a2, k2, e, h0, h1, h2, h3⟩ := h; ⟨c1, a2, k2, e, h0, h1.mono hH, h2, h3.mono hH fun _ _ _ => up_RInt _ _ _ _ hH⟩
theorem RFt.one {H : Hp} {c : List Value} {x : Ft} (h : RFt H c x) : ∀ u ∈ c, u.oneCell' = true := by
  obtain ⟨c1, a2, k2, rfl, _h0, _h1, _h2, _h3⟩ := h
  have q0 := _h1.one
  intro u hu
  simp only [List.mem_append, List.mem_cons, List.not_mem_nil, or_false] at hu
  rcases hu with (hu | hu) | hu
  all_goals first | exact q0 u hu | (subst hu; rfl) | (rcases hu with hu | hu <;> subst hu <;> rfl) | (rcases hu with hu | hu | hu <;> subst hu <;> rfl)

theorem RFt.len {H : Hp} {c : List Value} {x : Ft} (h : RFt H c x) : c.length = 4 := by
  obtain ⟨c1, a2, k2, rfl, _h0, _h1, _h2, _h3⟩ := h
  simp [_h1.len]

@[ext] structure Fr where
  rule : Int
  ids : List Int
deriving DecidableEq
def RFr (H : Hp) (c : List Value) (x : Fr) : Prop := ∃ a1 k1, c = [.int .i64 x.rule, .slice a1 x.ids.length k1] ∧ IntOk x.rule ∧ x.ids.length ≤ k1 ∧ Sl H 1 (RInt H) a1 x.ids
theorem RFr.mono {H H' : Hp} (hH : H.le H') {c : List Value} {x : Fr} (h : RFr H c x) : RFr H' c x :=
  let ⟨a1, k1, e, h0, h1, h2⟩ := h; ⟨a1, k1, e, h0, h1, h2.mono hH fun _ _ _ => up_RInt _ _ _ _ hH⟩
theorem RFr.one {H : Hp} {c : List Value} {x : Fr} (h : RFr H c x) : ∀ u ∈ c, u.oneCell' = true := by
  obtain ⟨a1, k1, rfl, _h0, _h1, _h2⟩ := h
  simp [Value.oneCell']
theorem RFr.len {H : Hp} {c : List Value} {x : Fr} (h : RFr H c x) : c.length = 2 := by
  obtain ⟨a1, k1, rfl, _h0, _h1, _h2⟩ := h
  rfl

@[ext] structure Fm where
  goal : Gl
  id : Int
  occ : Int
deriving DecidableEq
def RFm (H : Hp) (c : List Value) (x : Fm) : Prop := ∃ c1, c = c1 ++ [.int .i64 x.id, .int .i64 x.occ] ∧ RGl H c1 x.goal ∧ IntOk x.id ∧ IntOk x.occ
theorem RFm.mono {H H' : Hp} (hH : H.le H') {c : List Value} {x : Fm} (h : RFm H c x) : RFm H' c x :=
  let ⟨c1, e, h0, h1, h2⟩ := h; ⟨c1, e, h0.mono hH, h1, h2⟩
theorem RFm.one {H : Hp} {c : List Value} {x : Fm} (h : RFm H c x) : ∀ u ∈ c, u.oneCell' = true := by
  obtain ⟨c1, rfl, _h0, _h1, _h2⟩ := h
  have q0 := _h0.one
  intro u hu
  simp only [List.mem_append, List.mem_cons, List.not_mem_nil, or_false] at hu
  rcases hu with hu | hu
  all_goals first | exact q0 u hu | (subst hu; rfl) | (rcases hu with hu | hu <;> subst hu <;> rfl) | (rcases hu with hu | hu | hu <;> subst hu <;> rfl)

theorem RFm.len {H : Hp} {c : List Value} {x : Fm} (h : RFm H c x) : c.length = 5 := by
  obtain ⟨c1, rfl, _h0, _h1, _h2⟩ := h
  simp [_h0.len]

@[ext] structure Ev where
  kind : Int
  id : Int
  occ : Int
  rule : Int
  ids : List Int
deriving DecidableEq
def REv (H : Hp) (c : List Value) (x : Ev) : Prop := ∃ a1 k1, c = [.int .i64 x.kind, .int .i64 x.id, .int .i64 x.occ, .int .i64 x.rule, .slice a1 x.ids.length k1] ∧ IntOk x.kind ∧ IntOk x.id ∧ IntOk x.occ ∧ IntOk x.rule ∧ x.ids.length ≤ k1 ∧ Sl H 1 (RInt H) a1 x.ids
theorem REv.mono {H H' : Hp} (hH : H.le H') {c : List Value} {x : Ev} (h : REv H c x) : REv H' c x :=
  let ⟨a1, k1, e, h0, h1, h2, h3, h4, h5⟩ := h; ⟨a1, k1, e, h0, h1, h2, h3, h4, h5.mono hH fun _ _ _ => up_RInt _ _ _ _ hH⟩
theorem REv.one {H : Hp} {c : List Value} {x : Ev} (h : REv H c x) : ∀ u ∈ c, u.oneCell' = true := by
  obtain ⟨a1, k1, rfl, _h0, _h1, _h2, _h3, _h4, _h5⟩ := h
  simp [Value.oneCell']
theorem REv.len {H : Hp} {c : List Value} {x : Ev} (h : REv H c x) : c.length = 5 := by
  obtain ⟨a1, k1, rfl, _h0, _h1, _h2, _h3, _h4, _h5⟩ := h
  rfl

@[ext] structure Pl where
  occ : Oc
  order : List Int
  known : List (List Int)
  tests : List (List Int)
deriving DecidableEq
def RPl (H : Hp) (c : List Value) (x : Pl) : Prop := ∃ c1 a2 k2 a3 k3 a4 k4, c = c1 ++ [.slice a2 x.order.length k2, .slice a3 x.known.length k3, .slice a4 x.tests.length k4] ∧ ROc H c1 x.occ ∧ x.order.length ≤ k2 ∧ Sl H 1 (RInt H) a2 x.order ∧ x.known.length ≤ k3 ∧ Sl H 1 (RInts H) a3 x.known ∧ x.tests.length ≤ k4 ∧ Sl H 1 (RInts H) a4 x.tests
theorem RPl.mono {H H' : Hp} (hH : H.le H') {c : List Value} {x : Pl} (h : RPl H c x) : RPl H' c x :=
  let ⟨c1, a2, k2, a3, k3, a4, k4, e, h0, h1, h2, h3, h4, h5, h6⟩ := h; ⟨c1, a2, k2, a3, k3, a4, k4, e, h0.mono hH, h1, h2.mono hH fun _ _ _ => up_RInt _ _ _ _ hH, h3, h4.mono hH fun _ _ _ => up_RInts _ _ _ _ hH, h5, h6.mono hH fun _ _ _ => up_RInts _ _ _ _ hH⟩
theorem RPl.one {H : Hp} {c : List Value} {x : Pl} (h : RPl H c x) : ∀ u ∈ c, u.oneCell' = true := by
  obtain ⟨c1, a2, k2, a3, k3, a4, k4, rfl, _h0, _h1, _h2, _h3, _h4, _h5, _h6⟩ := h
  have q0 := _h0.one
  intro u hu
  simp only [List.mem_append, List.mem_cons, List.not_mem_nil, or_false] at hu
  rcases hu with hu | hu
  all_goals first | exact q0 u hu | (subst hu; rfl) | (rcases hu with hu | hu <;> subst hu <;> rfl) | (rcases hu with hu | hu | hu <;> subst hu <;> rfl)

theorem RPl.len {H : Hp} {c : List Value} {x : Pl} (h : RPl H c x) : c.length = 6 := by
  obtain ⟨c1, a2, k2, a3, k3, a4, k4, rfl, _h0, _h1, _h2, _h3, _h4, _h5, _h6⟩ := h
  simp [_h0.len]

@[ext] structure Ac where
  name : ByteArray
  arity : Int
  positions : List Int
deriving DecidableEq
def RAc (H : Hp) (c : List Value) (x : Ac) : Prop := ∃ a1 k1, c = [.string x.name, .int .i64 x.arity, .slice a1 x.positions.length k1] ∧ x.name.size ≤ lim ∧ IntOk x.arity ∧ x.positions.length ≤ k1 ∧ Sl H 1 (RInt H) a1 x.positions
theorem RAc.mono {H H' : Hp} (hH : H.le H') {c : List Value} {x : Ac} (h : RAc H c x) : RAc H' c x :=
  let ⟨a1, k1, e, h0, h1, h2, h3⟩ := h; ⟨a1, k1, e, h0, h1, h2, h3.mono hH fun _ _ _ => up_RInt _ _ _ _ hH⟩
theorem RAc.one {H : Hp} {c : List Value} {x : Ac} (h : RAc H c x) : ∀ u ∈ c, u.oneCell' = true := by
  obtain ⟨a1, k1, rfl, _h0, _h1, _h2, _h3⟩ := h
  simp [Value.oneCell']
theorem RAc.len {H : Hp} {c : List Value} {x : Ac} (h : RAc H c x) : c.length = 3 := by
  obtain ⟨a1, k1, rfl, _h0, _h1, _h2, _h3⟩ := h
  rfl

@[ext] structure Ky where
  name : ByteArray
  arity : Int
  positions : List Int
deriving DecidableEq
def RKy (H : Hp) (c : List Value) (x : Ky) : Prop := ∃ a1 k1, c = [.string x.name, .int .i64 x.arity, .slice a1 x.positions.length k1] ∧ x.name.size ≤ lim ∧ IntOk x.arity ∧ x.positions.length ≤ k1 ∧ Sl H 1 (RInt H) a1 x.positions
theorem RKy.mono {H H' : Hp} (hH : H.le H') {c : List Value} {x : Ky} (h : RKy H c x) : RKy H' c x :=
  let ⟨a1, k1, e, h0, h1, h2, h3⟩ := h; ⟨a1, k1, e, h0, h1, h2, h3.mono hH fun _ _ _ => up_RInt _ _ _ _ hH⟩
theorem RKy.one {H : Hp} {c : List Value} {x : Ky} (h : RKy H c x) : ∀ u ∈ c, u.oneCell' = true := by
  obtain ⟨a1, k1, rfl, _h0, _h1, _h2, _h3⟩ := h
  simp [Value.oneCell']
theorem RKy.len {H : Hp} {c : List Value} {x : Ky} (h : RKy H c x) : c.length = 3 := by
  obtain ⟨a1, k1, rfl, _h0, _h1, _h2, _h3⟩ := h
  rfl

@[ext] structure Ak where
  rule : Int
  head : Int
  done : List Int
deriving DecidableEq
def RAk (H : Hp) (c : List Value) (x : Ak) : Prop := ∃ a1 k1, c = [.int .i64 x.rule, .int .i64 x.head, .slice a1 x.done.length k1] ∧ IntOk x.rule ∧ IntOk x.head ∧ x.done.length ≤ k1 ∧ Sl H 1 (RInt H) a1 x.done
theorem RAk.mono {H H' : Hp} (hH : H.le H') {c : List Value} {x : Ak} (h : RAk H c x) : RAk H' c x :=
  let ⟨a1, k1, e, h0, h1, h2, h3⟩ := h; ⟨a1, k1, e, h0, h1, h2, h3.mono hH fun _ _ _ => up_RInt _ _ _ _ hH⟩
theorem RAk.one {H : Hp} {c : List Value} {x : Ak} (h : RAk H c x) : ∀ u ∈ c, u.oneCell' = true := by
  obtain ⟨a1, k1, rfl, _h0, _h1, _h2, _h3⟩ := h
  simp [Value.oneCell']
theorem RAk.len {H : Hp} {c : List Value} {x : Ak} (h : RAk H c x) : c.length = 3 := by
  obtain ⟨a1, k1, rfl, _h0, _h1, _h2, _h3⟩ := h
  rfl

@[ext] structure Ct where
  rules : List Int
  tried : Int
  goals : Int
  steps : Int
deriving DecidableEq
def RCt (H : Hp) (c : List Value) (x : Ct) : Prop := ∃ a1 k1, c = [.slice a1 x.rules.length k1, .int .i64 x.tried, .int .i64 x.goals, .int .i64 x.steps] ∧ x.rules.length ≤ k1 ∧ Sl H 1 (RInt H) a1 x.rules ∧ IntOk x.tried ∧ IntOk x.goals ∧ IntOk x.steps
theorem RCt.mono {H H' : Hp} (hH : H.le H') {c : List Value} {x : Ct} (h : RCt H c x) : RCt H' c x :=
  let ⟨a1, k1, e, h0, h1, h2, h3, h4⟩ := h; ⟨a1, k1, e, h0, h1.mono hH fun _ _ _ => up_RInt _ _ _ _ hH, h2, h3, h4⟩
theorem RCt.one {H : Hp} {c : List Value} {x : Ct} (h : RCt H c x) : ∀ u ∈ c, u.oneCell' = true := by
  obtain ⟨a1, k1, rfl, _h0, _h1, _h2, _h3, _h4⟩ := h
  simp [Value.oneCell']
theorem RCt.len {H : Hp} {c : List Value} {x : Ct} (h : RCt H c x) : c.length = 4 := by
  obtain ⟨a1, k1, rfl, _h0, _h1, _h2, _h3, _h4⟩ := h
  rfl

end Go.CK

