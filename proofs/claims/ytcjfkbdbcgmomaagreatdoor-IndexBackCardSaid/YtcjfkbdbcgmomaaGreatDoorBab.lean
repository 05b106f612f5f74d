/-
  Texts of this claim joined (wip/gen/bundle.py), those declarations only that are needed: AmS AmO. By an AI agent.
-/
import Derived.Test.YtcjfkbdbcgmomaaGreatDoorBaa
import Derived.CallsIn
set_option linter.unusedSimpArgs false
set_option linter.unusedVariables false
namespace Go.AM
open Go.CK Go.RowKit
structure LB where
 M : Hp
 σ : Nat -> Nat
 n : Nat
 r : Loop
 mp : Option (List MapEntry × Nat) := none
 rows : List (Nat × Nat × Obj) := []
def vOf1 : AV -> Value
 | .bool b => .bool b
 | .int k n => .int k n
 | _ => .agg #[]
def vOf : AV -> Value
 | .bool b => .bool b
 | .int k n => .int k n
 | .agg cs => .agg (cs.map vOf1).toArray
 | _ => .agg #[]
def mapE : Nat -> List (Int × AV) -> List MapEntry
 | _, [] => []
 | i, (k, x) :: l => { key := .int .i64 k, val := vOf x, born := i } :: mapE (i + 1) l
def mapEs (l : List (Int × AV)) : Array MapEntry := (mapE 0 l).toArray
def LB.obj (x : LB) : Obj := match x.mp with
 | none => .loop x.r
 | some (es, n) => .map es.toArray n
def LB.rs (x : LB) : List (Nat × Nat × Obj) := match x.mp with
 | none => []
 | some _ => x.rows
theorem LB.rs_loop {x : LB} (h : x.mp = none) : x.rs = [] := by unfold LB.rs; rw [h]
theorem LB.obj_loop {x : LB} (h : x.mp = none) : x.obj = .loop x.r := by unfold LB.obj; rw [h]
theorem LB.obj_no (x : LB) : x.obj.isCells = false := by
 unfold LB.obj; cases x.mp <;> rfl
theorem LB.obj_nd (x : LB) {d : Option (List Deferred)} (h : some (Obj.deferred d) = some x.obj) : False := by
 unfold LB.obj at h; cases hx : x.mp <;> rw [hx] at h <;> cases h
theorem LB.obj_nc (x : LB) {vs : Array Value} {T : TypeId} {q : Nat × Nat} (h : some (Obj.cells vs T q) = some x.obj) : False := by
 have := x.obj_no; cases h' : x.obj <;> rw [h'] at h this <;> first | (cases h; done) | cases this
def mLB (es : List MapEntry) (n : Nat) : LB := ⟨fun _ _ => none, fun _ => 0, 0, default, some (es, n), []⟩
def mpLB (l : List (Int × AV)) : LB := mLB (mapE 0 l) l.length
def mqE (l : List (Int × AV × Nat)) : List MapEntry := l.map fun e => { key := .int .i64 e.1, val := vOf e.2.1, born := e.2.2 }
structure TB where
 es : List MapEntry
 c : Nat
 rows : List (Nat × Nat × Obj)
def TB.lb (x : TB) : LB := ⟨fun _ _ => none, fun _ => 0, 0, default, some (x.es, x.c), x.rows⟩
inductive Box where
 | cells (cs : List AV)
 | dead
 | loop (x : LB)
 | row (cs : List AV)
 | mp (l : List (Int × AV))
 | mq (l : List (Int × AV × Nat)) (c : Nat)
 | tab (x : TB)
instance : Inhabited Box := ⟨.dead⟩
def envGet : List (Nat × AV) -> Nat -> Option AV
 | [], _ => none
 | (t, v) :: r, k => match Nat.beq t k with
  | true => some v
  | false => envGet r k
def envPut : List (Nat × AV) -> Nat -> AV -> List (Nat × AV)
 | [], k, v => [(k, v)]
 | (t, u) :: r, k, v => match Nat.beq t k with
  | true => (k, v) :: r
  | false => match Nat.blt k t with
   | true => (k, v) :: (t, u) :: r
   | false => (t, u) :: envPut r k v
def envKeep (f : Nat -> Bool) : List (Nat × AV) -> List (Nat × AV)
 | [] => []
 | (t, v) :: r => match f t with
  | true => (t, v) :: envKeep f r
  | false => envKeep f r
theorem beq_ne {a b : Nat} (h : ¬ a = b) : Nat.beq a b = false := by
 cases hb : Nat.beq a b with
 | false => rfl
 | true => exact absurd (Nat.eq_of_beq_eq_true hb) h
theorem envGet_put : ∀ (e : List (Nat × AV)) (k : Nat) (v : AV) (j : Nat), envGet (envPut e k v) j = if j = k then some v else envGet e j
 | [], k, v, j => by
  simp only [envPut, envGet]
  by_cases h : k = j
  ·subst h; simp
  ·rw [if_neg (fun e => h e.symm)]; have : Nat.beq k j = false := beq_ne h
   rw [this]
 | (t, u) :: r, k, v, j => by
  simp only [envPut]
  by_cases h : t = k
  ·subst h; have : Nat.beq t t = true := by simp
   rw [this]; simp only [envGet]
   by_cases h2 : t = j
   ·subst h2; simp
   ·have : Nat.beq t j = false := beq_ne h2; rw [this, if_neg (fun e => h2 e.symm)]
  ·have hk : Nat.beq t k = false := beq_ne h; rw [hk]; simp only
   cases hb : Nat.blt k t with
   | true =>
    simp only [envGet]
    by_cases h2 : k = j
    ·subst h2; simp
    ·have : Nat.beq k j = false := beq_ne h2
     rw [this, if_neg (fun e => h2 e.symm)]
   | false =>
    simp only [envGet]
    by_cases h2 : t = j
    ·subst h2; have : Nat.beq t t = true := by simp
     rw [this, if_neg h]
    ·have : Nat.beq t j = false := beq_ne h2; rw [this]; exact envGet_put r k v j
theorem envGet_keep (f : Nat -> Bool) : ∀ (e : List (Nat × AV)) (j : Nat) (v : AV), envGet (envKeep f e) j = some v -> envGet e j = some v ∧ f j = true
 | [], j, v, h => by cases h
 | (t, u) :: r, j, v, h => by
  simp only [envKeep] at h
  cases hf : f t with
  | true =>
   rw [hf] at h; simp only [envGet] at h ⊢
   cases hb : Nat.beq t j with
   | true => rw [hb] at h; simp only at h; have := Nat.eq_of_beq_eq_true hb; subst this; exact ⟨h, hf⟩
   | false => rw [hb] at h; exact envGet_keep f r j v h
  | false =>
   rw [hf] at h; simp only at h; obtain ⟨h1, h2⟩ := envGet_keep f r j v h; simp only [envGet]
   cases hb : Nat.beq t j with
   | true => have := Nat.eq_of_beq_eq_true hb; subst this; rw [hf] at h2; cases h2
   | false => exact ⟨h1, h2⟩
structure St where
 env : List (Nat × AV)
 bs : List Box
 lo : Nat
inductive Pl where
 | sl (t : Nat)
 | bx (b j : Nat)
deriving DecidableEq
def Box.cs? : Box -> Option (List AV)
 | .cells cs => some cs
 | .row (c :: cs) => some (c :: cs)
 | _ => none
def Box.lb? : Box -> Option LB
 | .loop x => some x
 | .mp l => some (mpLB l)
 | .mq l c => some (mLB (mqE l) c)
 | .tab x => some x.lb
 | _ => none
def boxCells (bs : List Box) (b : Nat) : Option (List AV) :=
 match bs[b]? with
 | some x => x.cs?
 | none => none
def boxLoop (bs : List Box) (b : Nat) : Option LB :=
 match bs[b]? with
 | some x => x.lb?
 | none => none
theorem row_cs (cs : List AV) : (Box.row cs).cs? = if cs = [] then none else some cs := by cases cs <;> rfl
def St.at (s : St) : Pl -> Option AV
 | .sl t => envGet s.env t
 | .bx b j => (boxCells s.bs b).bind (·[j]?)
def St.get (s : St) (t : Nat) : AV := match envGet s.env t with
 | some v => v
 | none => .top
def St.put (s : St) (d : Option Nat) (x : AV) : St := match d with
 | some k => ⟨envPut s.env k x, s.bs, s.lo⟩
 | none => s
def St.setBox (s : St) (b : Nat) (cs : List AV) : St := ⟨s.env, s.bs.set b (.cells cs), s.lo⟩
def St.upd (s : St) (p : Pl) (x : AV) : St :=
 match p with
 | .sl t => ⟨envPut s.env t x, s.bs, s.lo⟩
 | .bx b j => match boxCells s.bs b with
  | some cs => s.setBox b (cs.set j x)
  | none => s
theorem St.at_put (s : St) (k : Nat) (x : AV) (p : Pl) : (s.put (some k) x).at p = if p = .sl k then some x else s.at p := by
 cases p with
 | sl t =>
  simp only [St.put, St.at, envGet_put]
  by_cases h : t = k
  ·subst h; simp
  ·rw [if_neg h, if_neg (by simpa using h)]
 | bx b j => simp [St.put, St.at]
theorem boxCells_set {bs : List Box} {b : Nat} {cs : List AV} (h : boxCells bs b = some cs) (ds : List AV) (b' : Nat) : boxCells (bs.set b (.cells ds)) b' = if b' = b then some ds else boxCells bs b' := by
 have hb : b < bs.length := by
  rcases Nat.lt_or_ge b bs.length with h1 | h1
  ·exact h1
  ·simp [boxCells, List.getElem?_eq_none h1] at h
 simp only [boxCells, List.getElem?_set]
 by_cases e : b = b'
 ·subst e; simp [hb, Box.cs?]
 ·rw [if_neg e, if_neg (fun x => e x.symm)]
theorem boxCells_lt {bs : List Box} {b : Nat} {cs : List AV} (h : boxCells bs b = some cs) : b < bs.length := by
 rcases Nat.lt_or_ge b bs.length with h1 | h1
 ·exact h1
 ·simp [boxCells, List.getElem?_eq_none h1] at h
theorem boxCells_append (bs : List Box) (x : Box) (b : Nat) : boxCells (bs ++ [x]) b = if b = bs.length then x.cs? else boxCells bs b := by
 simp only [boxCells]
 by_cases h : b < bs.length
 ·rw [List.getElem?_append_left h, if_neg (by omega)]
 ·by_cases h2 : b = bs.length
  ·subst h2; simp
  ·rw [if_neg h2, List.getElem?_eq_none (by simp; omega), List.getElem?_eq_none (by omega)]
structure Entry where
 FP : Nat -> Prop
 M : Hp
 w : World
 nt : Nat
 nb : Nat
 σ0 : Nat -> Nat
 dd : List Deferred
structure Gh where
 M : Hp
 σ : Nat -> Nat
 cl : Pl -> Option Nat
def valAt (σ : Nat -> Nat) (a : Act) (w : World) : Pl -> Value
 | .sl t => a.tmps.getD t undef
 | .bx b j => (w.cell? ⟨σ b, j, none⟩).getD undef
def mark (D : Nat) : Deferred := { target := .collected D, args := #[] }
def Spc (σ : Nat -> Nat) (bs : List Box) (ds : List Deferred) (B : Nat) (o : Obj) : Prop := (∃ b x, boxLoop bs b = some x ∧ σ b = B ∧ o = x.obj) ∨ (mark B ∈ ds ∧ o = .deferred (some []))
structure Sp (FP : Nat -> Prop) (w0 : World) (M : Hp) (σ : Nat -> Nat) (cl : Pl -> Option Nat) (bs : List Box) (ds dd : List Deferred) (w : World) : Prop where
 ob : ∀ B o, Spc σ bs ds B o -> w.heap[B]? = some o ∧ (∀ p, cl p ≠ some B) ∧ (FP B ∨ w0.heap.size ≤ B)
 base : ∀ b x, boxLoop bs b = some x -> x.M.le M ∧ x.n ≤ b ∧ ∀ c, c < x.n -> σ c = x.σ c
 inj : ∀ b b' x x', boxLoop bs b = some x -> boxLoop bs b' = some x' -> σ b = σ b' -> b = b'
 ds : ∃ Ds : List Nat, ds = Ds.map mark ++ dd ∧ ds.Nodup
 rows : ∀ b x, boxLoop bs b = some x -> ∀ j B o, (j, B, o) ∈ x.rs -> w.heap[B]? = some o ∧ cl (.bx b j) = some B ∧ ∀ k, M B k = Option.none
theorem Spc.not_cells {σ : Nat -> Nat} {bs : List Box} {ds : List Deferred} {B : Nat} {o : Obj} (h : Spc σ bs ds B o) : o.isCells = false := by
 rcases h with ⟨b, x, _, _, rfl⟩ | ⟨_, rfl⟩
 ·exact x.obj_no
 ·rfl
theorem boxLoop_lt {bs : List Box} {b : Nat} {x : LB} (h : boxLoop bs b = some x) : b < bs.length := by
 rcases Nat.lt_or_ge b bs.length with h1 | h1
 ·exact h1
 ·simp [boxLoop, List.getElem?_eq_none h1] at h
theorem cells_of_loop {bs : List Box} {b : Nat} (h : (boxLoop bs b).isSome = true) : boxCells bs b = none := by
 simp only [boxLoop, boxCells] at h ⊢; split
 ·rename_i x hx; rw [hx] at h; cases x <;> first | rfl | cases h
 ·rfl
theorem at_loop {s : St} {b j : Nat} (h : (boxLoop s.bs b).isSome = true) : s.at (.bx b j) = none := by
 simp only [St.at, cells_of_loop h]; rfl
theorem boxLoop_nil {b : Nat} {x : LB} (h : boxLoop [] b = some x) : False := by simp [boxLoop] at h
theorem Sp.none (FP : Nat -> Prop) (w0 : World) (M : Hp) (σ : Nat -> Nat) (cl : Pl -> Option Nat) (w : World) : Sp FP w0 M σ cl [] [] [] w :=
 ⟨fun B o h => (by rcases h with ⟨b, x, hb, _⟩ | ⟨h, _⟩; exact (boxLoop_nil hb).elim; cases h), fun b x hb => (boxLoop_nil hb).elim, fun b b' x x' hb => (boxLoop_nil hb).elim, ⟨[], rfl, .nil⟩, fun b x hb => (boxLoop_nil hb).elim⟩
theorem Sp.step {FP FP' : Nat -> Prop} {w0 w0' : World} {M M' : Hp} {σ σ' : Nat -> Nat} {cl cl' : Pl -> Option Nat} {bs bs' : List Box} {ds dd : List Deferred} {w w' : World} (h : Sp FP w0 M σ cl bs ds dd w) (hM : M.le M') (hσ : ∀ b, b < bs.length -> σ' b = σ b)
  (hl : ∀ b x, boxLoop bs' b = some x -> boxLoop bs b = some x) (hw : ∀ (B : Nat) (o : Obj), w.heap[B]? = some o -> o.isCells = false -> w'.heap[B]? = some o) (hcl : ∀ (B : Nat) (o : Obj), w.heap[B]? = some o -> o.isCells = false -> ∀ p, cl' p = some B -> ∃ q, cl q = some B)
  (hm : ∀ B, FP B ∨ w0.heap.size ≤ B -> FP' B ∨ w0'.heap.size ≤ B)
  (hr : ∀ b j B o, (boxLoop bs b).isSome = true -> cl (.bx b j) = some B -> w.heap[B]? = some o -> cl' (.bx b j) = some B ∧ w'.heap[B]? = some o ∧ ((∀ k, M B k = Option.none) -> ∀ k, M' B k = Option.none) := by exact fun _ _ _ _ _ h1 h2 => ⟨h1, h2, fun h3 => h3⟩) : Sp FP' w0' M' σ' cl' bs' ds dd w' := by
 refine ⟨fun B o hs => ?_, fun b x hb => ?_, fun b b' x x' hb hb' e => ?_, h.ds, fun b x hb j B o hj => ?_⟩
 ·have hs' : Spc σ bs ds B o := by
   rcases hs with ⟨b, x, hb, e, ho⟩ | hs
   ·have := hl b x hb; exact .inl ⟨b, x, this, by rw [← hσ b (boxLoop_lt this)]; exact e, ho⟩
   ·exact .inr hs
  obtain ⟨h1, h2, h3⟩ := h.ob B o hs'; refine ⟨hw B o h1 hs'.not_cells, fun p hp => ?_, hm B h3⟩; obtain ⟨q, hq⟩ := hcl B o h1 hs'.not_cells p hp; exact h2 q hq
 ·have hb' := hl b x hb; obtain ⟨h1, h2, h3⟩ := h.base b x hb'; have := boxLoop_lt hb'; exact ⟨Hp.le_trans h1 hM, h2, fun c hc => (hσ c (by omega)).trans (h3 c hc)⟩
 ·have h1 := hl b x hb; have h2 := hl b' x' hb'; exact h.inj b b' x x' h1 h2 (by rw [← hσ b (boxLoop_lt h1), ← hσ b' (boxLoop_lt h2)]; exact e)
 ·have h1 := hl b x hb; obtain ⟨h2, h3, h4⟩ := h.rows b x h1 j B o hj; obtain ⟨h5, h6, h7⟩ := hr b j B o (by rw [h1]; rfl) h3 h2
  exact ⟨h6, h5, h7 h4⟩
theorem Sp.loops {FP : Nat -> Prop} {w0 : World} {M : Hp} {σ : Nat -> Nat} {cl : Pl -> Option Nat} {bs bs' : List Box} {ds dd : List Deferred} {w : World} (h : Sp FP w0 M σ cl bs ds dd w) (hl : ∀ b x, boxLoop bs' b = some x -> boxLoop bs b = some x) : Sp FP w0 M σ cl bs' ds dd w :=
 h.step (Hp.le_refl _) (fun _ _ => rfl) hl (fun _ _ k _ => k) (fun _ _ _ _ p k => ⟨p, k⟩) (fun _ k => k)
theorem boxLoop_set {bs : List Box} {b : Nat} {cs : List AV} {c : Nat} {x : LB} (h : boxLoop (bs.set b (.cells cs)) c = some x) : boxLoop bs c = some x := by
 by_cases e : b = c
 ·subst e
  by_cases hb : b < bs.length
  ·simp [boxLoop, hb] at h; cases h
  ·simp [boxLoop, hb] at h
 ·simp only [boxLoop, List.getElem?_set, if_neg e] at h; exact h
theorem boxLoop_append {bs : List Box} {y : Box} (hy : y.lb? = none) {c : Nat} {x : LB} (h : boxLoop (bs ++ [y]) c = some x) : boxLoop bs c = some x := by
 simp only [boxLoop] at h ⊢
 by_cases h1 : c < bs.length
 ·rwa [List.getElem?_append_left h1] at h
 ·by_cases h2 : c = bs.length
  ·subst h2; simp [hy] at h
  ·rw [List.getElem?_eq_none (by simp; omega)] at h; cases h
def KB : Nat := 1
def KV : List Value := [1, 10, 100, 1000, 10000, 100000, 1000000, 10000000, 100000000, 1000000000, 10000000000, 100000000000, 1000000000000, 10000000000000, 100000000000000, 1000000000000000, 10000000000000000, 100000000000000000, 1000000000000000000, 10000000000000000000].map (Value.int .u64)
structure Kn (M : Hp) (w : World) : Prop where
 tb : ∃ T fz, w.heap[KB]? = some (.cells KV.toArray T fz)
 kn : ∀ j v, KV[j]? = some v -> M KB j = some v
theorem Kn.of {w : World} (h : ∃ T fz, w.heap[KB]? = some (.cells KV.toArray T fz)) : Kn (Hp.of w) w := ⟨h, fun j v hv => by
 obtain ⟨T, fz, h1⟩ := h; simp only [Hp.of, World.cell?, h1]; simpa using hv⟩
theorem Kn.mono {M M' : Hp} {w : World} (h : Kn M w) (hM : M.le M') : Kn M' w := ⟨h.tb, fun j v hv => hM _ _ _ (h.kn j v hv)⟩
theorem Kn.keep {M : Hp} {w w' : World} (h : Kn M w) (hh : w'.heap[KB]? = w.heap[KB]?) : Kn M w' := ⟨by rw [hh]; exact h.tb, h.kn⟩
theorem Kn.lt {M : Hp} {w : World} (h : Kn M w) : KB < w.heap.size := by
 obtain ⟨T, fz, h1⟩ := h.tb; exact (Array.getElem?_eq_some_iff.1 h1).1
theorem Kn.ne {M : Hp} {w : World} (h : Kn M w) {B : Nat} (hB : ∀ o, M B o = none) : KB ≠ B := fun e => by
 have := h.kn 0 _ rfl; rw [e, hB] at this; cases this
theorem Kn.neO {M : Hp} {w : World} (h : Kn M w) {B : Nat} {o : Obj} (ho : w.heap[B]? = some o) (hk : o.isCells = false) : KB ≠ B := fun e => by
 obtain ⟨T, fz, h1⟩ := h.tb; rw [e, ho] at h1; cases h1; cases hk
theorem Kn.neR {M : Hp} {w : World} (h : Kn M w) {B m : Nat} {vs : Array Value} {T : TypeId} {fz : Nat × Nat} (hc : w.heap[B]? = some (.cells vs T fz)) (hm : m < vs.size) (hf : M B m = none) : KB ≠ B := fun e => by
 obtain ⟨T', fz', h1⟩ := h.tb; rw [e, hc] at h1; cases h1; have := h.kn m _ (List.getElem?_eq_getElem (by simpa using hm))
 rw [e, hf] at this; cases this
structure Fr0 (FP : Nat -> Prop) (M : Hp) (w : World) (M' : Hp) (w' : World) : Prop where
 os : w'.os = w.os
 tape : w'.tape = w.tape
 output : w'.output = w.output
 size : w.heap.size ≤ w'.heap.size
 le : M.le M'
 heap : ∀ B, B < w.heap.size -> ¬ FP B -> w'.heap[B]? = w.heap[B]?
 mem : ∀ B, B < w.heap.size -> ¬ FP B -> ∀ o, M' B o = M B o
structure Fr (FP : Nat -> Prop) (M : Hp) (w : World) (M' : Hp) (w' : World) : Prop where
 os : w'.os = w.os
 tape : w'.tape = w.tape
 output : w'.output = w.output
 size : w.heap.size ≤ w'.heap.size
 le : M.le M'
 heap : ∀ B, B < w.heap.size -> ¬ FP B -> w'.heap[B]? = w.heap[B]?
 mem : ∀ B, B < w.heap.size -> ¬ FP B -> ∀ o, M' B o = M B o
 kn : Kn M' w'
theorem Fr.refl (FP : Nat -> Prop) (M : Hp) (w : World) (k : Kn M w) : Fr FP M w M w := ⟨rfl, rfl, rfl, Nat.le_refl _, Hp.le_refl _, fun _ _ _ => rfl, fun _ _ _ _ => rfl, k⟩
theorem Fr.trans {FP FP' : Nat -> Prop} {M M1 M2 : Hp} {w w1 w2 : World} (h : Fr FP M w M1 w1) (k : Fr FP' M1 w1 M2 w2) (hs : ∀ B, FP' B -> FP B ∨ w.heap.size ≤ B) : Fr FP M w M2 w2 := by
 refine ⟨k.os.trans h.os, k.tape.trans h.tape, k.output.trans h.output, Nat.le_trans h.size k.size, Hp.le_trans h.le k.le, fun B hB hn => ?_, fun B hB hn o => ?_, k.kn⟩
 ·have : ¬ FP' B := fun e => by rcases hs B e with e | e; exact hn e; omega
  exact (k.heap B (by have := h.size; omega) this).trans (h.heap B hB hn)
 ·have : ¬ FP' B := fun e => by rcases hs B e with e | e; exact hn e; omega
  exact (k.mem B (by have := h.size; omega) this o).trans (h.mem B hB hn o)
theorem Fr0.fr {M M' : Hp} {w w' : World} (h : Fr0 (fun _ => False) M w M' w') (k : Kn M w) : Fr (fun _ => False) M w M' w' :=
 ⟨h.os, h.tape, h.output, h.size, h.le, h.heap, h.mem, (k.mono h.le).keep (h.heap KB k.lt (fun e => e))⟩
structure Row (FP : Nat -> Prop) (w0 : World) (M : Hp) (w : World) (B sz n k : Nat) : Prop where
 lt : n < k
 cells : ∃ (vs : Array Value) (T : TypeId), w.heap[B]? = some (.cells vs T (0, 0)) ∧ vs.size = k * sz
 free : ∀ o, n * sz ≤ o -> M B o = none
 mine : FP B ∨ w0.heap.size ≤ B
structure RS (E : Entry) (G : Gh) (s : St) (a : Act) (w : World) : Prop where
 fr : Fr E.FP E.M E.w G.M w
 ok : G.M.le (Hp.of w)
 nt : a.tmps.size = E.nt
 val : ∀ p x, s.at p = some x -> RV G.M G.σ s.bs.length x.deown (valAt G.σ a w p)
 one : ∀ b j x, s.at (.bx b j) = some x -> (valAt G.σ a w (.bx b j)).oneCell' = true
 box : ∀ b cs, boxCells s.bs b = some cs -> ∃ (vs : Array Value) (T : TypeId), w.heap[G.σ b]? = some (.cells vs T (0, 0)) ∧ cs.length ≤ vs.size
 bmem : ∀ b cs, boxCells s.bs b = some cs -> (∀ o, G.M (G.σ b) o = none) ∧ (E.FP (G.σ b) ∨ E.w.heap.size ≤ G.σ b)
 inj : ∀ b b' cs cs', boxCells s.bs b = some cs -> boxCells s.bs b' = some cs' -> G.σ b = G.σ b' -> b = b'
 own : ∀ p z l, s.at p = some (.sl (.own z) l) -> ∃ ad k, valAt G.σ a w p = .slice ad l.length k ∧ (∀ y ∈ l, y.cells.length = z) ∧ (k = l.length ∨ ∃ B, G.cl p = some B ∧ ad = some ⟨B, 0, none⟩ ∧ Row E.FP E.w G.M w B z l.length k)
 clinj : ∀ p q B, G.cl p = some B -> G.cl q = some B -> p = q
 clbox : ∀ p B, G.cl p = some B -> ∀ b cs, boxCells s.bs b = some cs -> G.σ b ≠ B
 cllt : ∀ p B, G.cl p = some B -> B < w.heap.size ∧ (E.FP B ∨ E.w.heap.size ≤ B)
 lo : s.lo = E.nb
 len : E.nb ≤ s.bs.length
 sig : ∀ b, b < E.nb -> G.σ b = E.σ0 b
 sp : Sp E.FP E.w G.M G.σ G.cl s.bs a.defers E.dd w
section
variable {E : Entry} {G : Gh} {s : St} {a : Act} {w : World}
theorem RS.blt (h : RS E G s a w) {b : Nat} {cs : List AV} (hb : boxCells s.bs b = some cs) : G.σ b < w.heap.size := by
 obtain ⟨vs, T, h1, _⟩ := h.box b cs hb; rcases Nat.lt_or_ge (G.σ b) w.heap.size with h2 | h2
 ·exact h2
 ·rw [Array.getElem?_eq_none (by omega)] at h1; cases h1
theorem cell_heap {w w' : World} {B : Nat} (h : w'.heap[B]? = w.heap[B]?) (o : Nat) : w'.cell? ⟨B, o, none⟩ = w.cell? ⟨B, o, none⟩ := by
 simp only [World.cell?, h]
theorem RS.sameBoxes (h : RS E G s a w) {bs' : List Box} (hc : ∀ b, boxCells bs' b = boxCells s.bs b) (hl : ∀ b, boxLoop bs' b = boxLoop s.bs b) (hn : bs'.length = s.bs.length) : RS E G ⟨s.env, bs', s.lo⟩ a w := by
 have hat : ∀ p, (⟨s.env, bs', s.lo⟩ : St).at p = s.at p := fun p => by
  cases p with
  | sl t => rfl
  | bx b j => simp only [St.at, hc]
 exact ⟨h.fr, h.ok, h.nt, fun p x hp => by simp only [hn]; exact h.val p x (by rw [← hat]; exact hp), fun b j x hp => h.one b j x (by rw [← hat]; exact hp), fun b cs hb => h.box b cs (by rw [← hc]; exact hb), fun b cs hb => h.bmem b cs (by rw [← hc]; exact hb), fun b b' cs cs' hb hb' => h.inj b b' cs cs' (by rw [← hc]; exact hb) (by rw [← hc]; exact hb'), fun p z l hp => h.own p z l (by rw [← hat]; exact hp), h.clinj, fun p B hB b cs hb => h.clbox p B hB b cs (by rw [← hc]; exact hb), h.cllt, h.lo, by simp only [hn]; exact h.len, h.sig, h.sp.loops fun b x hb => by rw [← hl]; exact hb⟩
theorem RS.grow (h : RS E G s a w) {M' : Hp} {w' : World} (hf : Fr0 (fun _ => False) G.M w M' w') (hok : M'.le (Hp.of w')) : RS E { G with M := M' } s a w' := by
 have hlt : ∀ B o v, G.M B o = some v -> B < w.heap.size := fun B o v e => Hp.lt h.ok e; have hmem : ∀ B, B < w.heap.size -> ∀ o, M' B o = G.M B o := fun B hB o => hf.mem B hB (fun e => e) o; have hheap : ∀ B, B < w.heap.size -> w'.heap[B]? = w.heap[B]? := fun B hB => hf.heap B hB (fun e => e)
 have hval : ∀ p x, s.at p = some x -> valAt G.σ a w' p = valAt G.σ a w p := fun p x hx => by
  cases p with
  | sl t => rfl
  | bx b j =>
   simp only [St.at] at hx
   cases hb : boxCells s.bs b with
   | none => rw [hb] at hx; cases hx
   | some cs => simp only [valAt]; rw [cell_heap (hheap _ (h.blt hb))]
 refine ⟨h.fr.trans (hf.fr h.fr.kn) (fun _ e => e.elim), hok, h.nt, fun p x hx => ?_, fun b j x hx => ?_, fun b cs hb => ?_, fun b cs hb => ?_, h.inj, fun p z l hp => ?_, h.clinj, h.clbox, fun p B hB => ?_, h.lo, h.len, h.sig, h.sp.step hf.le (fun _ _ => rfl) (fun _ _ k => k) (fun B o ho _ => (hheap B (Array.getElem?_eq_some_iff.1 ho).1).trans ho) (fun _ _ _ _ p k => ⟨p, k⟩) (fun _ k => k) (fun b j B o _ h1 h2 => ⟨h1, (hheap B (Array.getElem?_eq_some_iff.1 h2).1).trans h2, fun h3 k => (hmem B (Array.getElem?_eq_some_iff.1 h2).1 k).trans (h3 k)⟩)⟩
 ·show RV M' G.σ _ _ (valAt G.σ a w' p); rw [hval p x hx]; exact (h.val p x hx).mono hf.le (Nat.le_refl _) (fun _ _ => rfl)
 ·show (valAt G.σ a w' _).oneCell' = true; rw [hval _ x hx]; exact h.one b j x hx
 ·obtain ⟨vs, T, h1, h2⟩ := h.box b cs hb; exact ⟨vs, T, (hheap _ (h.blt hb)).trans h1, h2⟩
 ·obtain ⟨h1, h2⟩ := h.bmem b cs hb; exact ⟨fun o => (hmem _ (h.blt hb) o).trans (h1 o), h2⟩
 ·obtain ⟨ad, k, h1, hz, h2⟩ := h.own p z l hp; refine ⟨ad, k, (hval p _ hp).trans h1, hz, ?_⟩; rcases h2 with h2 | ⟨B, hB, had, hrow⟩
  ·exact .inl h2
  ·have hB' := (h.cllt p B hB).1; obtain ⟨vs, T, h3, h4⟩ := hrow.cells; exact .inr ⟨B, hB, had, hrow.lt, ⟨vs, T, (hheap _ hB').trans h3, h4⟩, fun o ho => (hmem _ hB' o).trans (hrow.free o ho), hrow.mine⟩
 ·obtain ⟨h1, h2⟩ := h.cllt p B hB; exact ⟨Nat.lt_of_lt_of_le h1 hf.size, h2⟩
theorem RS.drew (h : RS E G s a w) : RS E G s a { w with drawn := w.drawn + 1 } :=
 h.grow (M' := G.M) ⟨rfl, rfl, rfl, Nat.le_refl _, Hp.le_refl _, fun _ _ _ => rfl, fun _ _ _ _ => rfl⟩ h.ok
theorem valAt_put {σ : Nat -> Nat} (a : Act) (w : World) (k : Nat) (v : Value) (p : Pl) (hk : k < a.tmps.size) : valAt σ (a.put (some k) v) w p = if p = .sl k then v else valAt σ a w p := by
 cases p with
 | sl t =>
  simp only [valAt, Act.put]
  by_cases h : t = k
  ·subst h; simp [hk]
  ·rw [if_neg (by simpa using h)]
   simp [Array.getElem?_setIfInBounds_ne (Ne.symm h)]
 | bx b j => simp [valAt]
theorem RS.put (h : RS E G s a w) {k : Nat} (hk : k < E.nt) {x : AV} {v : Value} (hx : RV G.M G.σ s.bs.length x v) : RS E G (s.put (some k) x) (a.put (some k) v) w := by
 have hk' : k < a.tmps.size := by rw [h.nt]; exact hk
 have hbs : (s.put (some k) x).bs = s.bs := rfl; refine ⟨h.fr, h.ok, ?_, fun p y hy => ?_, fun b j y hy => ?_, h.box, h.bmem, h.inj, fun p z l hp => ?_, h.clinj, h.clbox, h.cllt, h.lo, h.len, h.sig, h.sp⟩
 ·simp [Act.put, h.nt]
 ·rw [St.at_put] at hy; rw [valAt_put a w k v p hk']
  by_cases hp : p = .sl k
  ·rw [if_pos hp] at hy ⊢; cases hy; rw [hx.deown_of]; exact hx
  ·rw [if_neg hp] at hy ⊢; exact h.val p y hy
 ·rw [St.at_put, if_neg (by simp)] at hy
  rw [valAt_put a w k v _ hk', if_neg (by simp)]
  exact h.one b j y hy
 ·rw [St.at_put] at hp; rw [valAt_put a w k v p hk']
  by_cases hpk : p = .sl k
  ·rw [if_pos hpk] at hp; cases hp; have := hx.deown_of; simp [AV.deown] at this
  ·rw [if_neg hpk] at hp ⊢; exact h.own p z l hp
theorem RS.put' (h : RS E G s a w) {d : Option Nat} (hd : ∀ k, d = some k -> k < E.nt) {x : AV} {v : Value} (hx : RV G.M G.σ s.bs.length x v) : RS E G (s.put d x) (a.put d v) w := by
 cases d with
 | none => exact h
 | some k => exact h.put (hd k rfl) hx
theorem St.at_upd (s : St) {q : Pl} {y : AV} (hq : s.at q = some y) (x : AV) (p : Pl) : (s.upd q x).at p = if p = q then some x else s.at p := by
 cases q with
 | sl t => exact St.at_put s t x p
 | bx b j =>
  simp only [St.at] at hq
  cases hb : boxCells s.bs b with
  | none => rw [hb] at hq; cases hq
  | some cs =>
   rw [hb] at hq; simp only [Option.bind_some] at hq; simp only [St.upd, hb]
   cases p with
   | sl t => simp [St.at, St.setBox]
   | bx b' j' =>
    simp only [St.at, St.setBox, boxCells_set hb]
    by_cases e : b' = b
    ·subst e; rw [if_pos rfl]; simp only [Option.bind_some, List.getElem?_set]
     have hj : j < cs.length := by
      rcases Nat.lt_or_ge j cs.length with h1 | h1
      ·exact h1
      ·rw [List.getElem?_eq_none h1] at hq; cases hq
     by_cases e2 : j = j'
     ·subst e2; simp [hj]
     ·rw [if_neg e2, if_neg (by simpa using fun x => e2 x.symm), hb]; rfl
    ·rw [if_neg e, if_neg (by simp [e])]
theorem St.upd_len (s : St) (q : Pl) (x : AV) : (s.upd q x).bs.length = s.bs.length := by
 cases q with
 | sl t => rfl
 | bx b j =>
  simp only [St.upd]; cases boxCells s.bs b <;> simp [St.setBox]
theorem St.upd_lo (s : St) (q : Pl) (x : AV) : (s.upd q x).lo = s.lo := by
 cases q with
 | sl t => rfl
 | bx b j =>
  simp only [St.upd]; cases boxCells s.bs b <;> rfl
theorem St.upd_box (s : St) (q : Pl) (x : AV) (b : Nat) (cs : List AV) (h : boxCells (s.upd q x).bs b = some cs) : ∃ ds, boxCells s.bs b = some ds ∧ ds.length = cs.length := by
 cases q with
 | sl t => exact ⟨cs, h, rfl⟩
 | bx c j =>
  simp only [St.upd] at h
  cases hb : boxCells s.bs c with
  | none => rw [hb] at h; exact ⟨cs, h, rfl⟩
  | some es =>
   rw [hb] at h; simp only [St.setBox, boxCells_set hb] at h
   by_cases e : b = c
   ·subst e; rw [if_pos rfl] at h; cases h; exact ⟨es, hb, by simp⟩
   ·rw [if_neg e] at h; exact ⟨cs, h, rfl⟩
theorem St.upd_loop {s : St} {q : Pl} {x : AV} {b : Nat} {y : LB} (h : boxLoop (s.upd q x).bs b = some y) : boxLoop s.bs b = some y := by
 cases q with
 | sl t => exact h
 | bx c j =>
  simp only [St.upd] at h
  cases hb : boxCells s.bs c with
  | none => rw [hb] at h; exact h
  | some es => rw [hb] at h; exact boxLoop_set h
theorem RS.upd (h : RS E G s a w) {q : Pl} {y x : AV} (hq : s.at q = some y) (hx : RV G.M G.σ s.bs.length x (valAt G.σ a w q)) : RS E G (s.upd q x) a w := by
 refine ⟨h.fr, h.ok, h.nt, fun p u hu => ?_, fun b j u hu => ?_, fun b cs hb => ?_, fun b cs hb => ?_, fun b b' cs cs' hb hb' e => ?_, fun p z l hp => ?_, h.clinj, fun p B hB b cs hb => ?_, h.cllt, (St.upd_lo s q x).trans h.lo, by rw [St.upd_len]; exact h.len, h.sig, h.sp.loops fun _ _ k => St.upd_loop k⟩
 ·rw [St.at_upd s hq] at hu; rw [St.upd_len]
  by_cases hp : p = q
  ·rw [if_pos hp] at hu; cases hu; rw [hx.deown_of, hp]; exact hx
  ·rw [if_neg hp] at hu; exact h.val p u hu
 ·rw [St.at_upd s hq] at hu
  by_cases hp : Pl.bx b j = q
  ·rw [if_pos hp] at hu; exact h.one b j y (hp ▸ hq)
  ·rw [if_neg hp] at hu; exact h.one b j u hu
 ·obtain ⟨ds, h1, h2⟩ := s.upd_box q x b cs hb; obtain ⟨vs, T, h3, h4⟩ := h.box b ds h1; exact ⟨vs, T, h3, Nat.le_trans (by omega) h4⟩
 ·obtain ⟨ds, h1, h2⟩ := s.upd_box q x b cs hb; exact h.bmem b ds h1
 ·obtain ⟨ds, h1, _⟩ := s.upd_box q x b cs hb; obtain ⟨ds', h1', _⟩ := s.upd_box q x b' cs' hb'; exact h.inj b b' ds ds' h1 h1' e
 ·rw [St.at_upd s hq] at hp
  by_cases hpq : p = q
  ·rw [if_pos hpq] at hp; cases hp; have := hx.deown_of; simp [AV.deown] at this
  ·rw [if_neg hpq] at hp; exact h.own p z l hp
 ·obtain ⟨ds, h1, _⟩ := s.upd_box q x b cs hb; exact h.clbox p B hB b ds h1
theorem RS.move (h : RS E G s a w) {p q : Pl} {z : Nat} {l : List AV} {o : Cap} (hpq : p ≠ q) (hp : s.at p = some (.sl (.own z) l)) (hq : s.at q = some (.sl o l))
  (he : valAt G.σ a w q = valAt G.σ a w p) : RS E { G with cl := fun r => if r = q then G.cl p else if r = p then none else G.cl r } ((s.upd p (.sl .no l)).upd q (.sl (.own z) l)) a w := by
 have hvp := h.val p _ hp; have h1 : RS E G (s.upd p (.sl .no l)) a w := h.upd hp hvp; have hq1 : (s.upd p (.sl .no l)).at q = some (.sl o l) := by rw [St.at_upd s hp, if_neg (Ne.symm hpq)]; exact hq
 have hat : ∀ r, ((s.upd p (.sl .no l)).upd q (.sl (.own z) l)).at r = if r = q then some (.sl (.own z) l) else if r = p then some (.sl .no l) else s.at r := fun r => by
  rw [St.at_upd _ hq1, St.at_upd s hp]
 have hbox : ∀ b cs, boxCells ((s.upd p (.sl .no l)).upd q (.sl (.own z) l)).bs b = some cs -> ∃ ds, boxCells s.bs b = some ds ∧ ds.length = cs.length := fun b cs hb => by
  obtain ⟨ds, h2, h3⟩ := St.upd_box _ q _ b cs hb; obtain ⟨es, h4, h5⟩ := St.upd_box s p _ b ds h2; exact ⟨es, h4, h5.trans h3⟩
 have hlen : ((s.upd p (.sl .no l)).upd q (.sl (.own z) l)).bs.length = s.bs.length := by rw [St.upd_len, St.upd_len]
 refine ⟨h.fr, h.ok, h.nt, fun r u hu => ?_, fun b j u hu => ?_, fun b cs hb => ?_, fun b cs hb => ?_, fun b b' cs cs' hb hb' e => ?_, fun r z' l' hr => ?_, fun r r' B hr hr' => ?_, fun r B hB b cs hb => ?_, fun r B hB => ?_, (St.upd_lo _ q _).trans ((St.upd_lo s p _).trans h.lo), by rw [hlen]; exact h.len, h.sig, h.sp.step (Hp.le_refl _) (fun _ _ => rfl) (fun _ _ k => St.upd_loop (St.upd_loop k)) (fun _ _ k _ => k) (fun B _ _ _ r k => ?_) (fun _ k => k) (fun b j B o h1 h2 h3 => ?_)⟩
 ·rw [hat] at hu; rw [hlen]
  by_cases hr : r = q
  ·rw [if_pos hr] at hu; cases hu; subst hr; rw [he]; exact hvp
  ·rw [if_neg hr] at hu
   by_cases hr2 : r = p
   ·rw [if_pos hr2] at hu; cases hu; subst hr2; exact hvp
   ·rw [if_neg hr2] at hu; exact h.val r u hu
 ·rw [hat] at hu
  by_cases hr : Pl.bx b j = q
  ·exact h.one b j _ (hr ▸ hq)
  ·rw [if_neg hr] at hu
   by_cases hr2 : Pl.bx b j = p
   ·exact h.one b j _ (hr2 ▸ hp)
   ·rw [if_neg hr2] at hu; exact h.one b j u hu
 ·obtain ⟨ds, h2, h3⟩ := hbox b cs hb; obtain ⟨vs, T, h4, h5⟩ := h.box b ds h2; exact ⟨vs, T, h4, Nat.le_trans (by omega) h5⟩
 ·obtain ⟨ds, h2, h3⟩ := hbox b cs hb; exact h.bmem b ds h2
 ·obtain ⟨ds, h2, h3⟩ := hbox b cs hb; obtain ⟨ds', h2', h3'⟩ := hbox b' cs' hb'; exact h.inj b b' ds ds' h2 h2' e
 ·rw [hat] at hr
  by_cases hrq : r = q
  ·rw [if_pos hrq] at hr; cases hr; obtain ⟨ad, k, h2, hz, h3⟩ := h.own p z l hp; refine ⟨ad, k, by rw [hrq]; exact he.trans h2, hz, ?_⟩
   rcases h3 with h3 | ⟨B, hB, h4, h5⟩
   ·exact .inl h3
   ·exact .inr ⟨B, by simp only [hrq, if_true]; exact hB, h4, h5⟩
  ·rw [if_neg hrq] at hr
   by_cases hrp : r = p
   ·rw [if_pos hrp] at hr; cases hr
   ·rw [if_neg hrp] at hr; obtain ⟨ad, k, h2, hz, h3⟩ := h.own r z' l' hr; refine ⟨ad, k, h2, hz, ?_⟩; rcases h3 with h3 | ⟨B, hB, h4, h5⟩
    ·exact .inl h3
    ·exact .inr ⟨B, by simp only [hrq, hrp, if_false]; exact hB, h4, h5⟩
 ·simp only at hr hr'
  by_cases hrq : r = q
  ·rw [if_pos hrq] at hr
   by_cases hrq' : r' = q
   ·rw [hrq, hrq']
   ·rw [if_neg hrq'] at hr'
    by_cases hrp' : r' = p
    ·rw [if_pos hrp'] at hr'; cases hr'
    ·rw [if_neg hrp'] at hr'; exact absurd (h.clinj _ _ B hr' hr) hrp'
  ·rw [if_neg hrq] at hr
   by_cases hrp : r = p
   ·rw [if_pos hrp] at hr; cases hr
   ·rw [if_neg hrp] at hr
    by_cases hrq' : r' = q
    ·rw [if_pos hrq'] at hr'; exact absurd (h.clinj _ _ B hr hr') hrp
    ·rw [if_neg hrq'] at hr'
     by_cases hrp' : r' = p
     ·rw [if_pos hrp'] at hr'; cases hr'
     ·rw [if_neg hrp'] at hr'; exact h.clinj _ _ B hr hr'
 ·obtain ⟨ds, h2, h3⟩ := hbox b cs hb; simp only at hB
  by_cases hrq : r = q
  ·rw [if_pos hrq] at hB; exact h.clbox p B hB b ds h2
  ·rw [if_neg hrq] at hB
   by_cases hrp : r = p
   ·rw [if_pos hrp] at hB; cases hB
   ·rw [if_neg hrp] at hB; exact h.clbox r B hB b ds h2
 ·simp only at hB
  by_cases hrq : r = q
  ·rw [if_pos hrq] at hB; exact h.cllt p B hB
  ·rw [if_neg hrq] at hB
   by_cases hrp : r = p
   ·rw [if_pos hrp] at hB; cases hB
   ·rw [if_neg hrp] at hB; exact h.cllt r B hB
 ·simp only at k
  by_cases hrq : r = q
  ·rw [if_pos hrq] at k; exact ⟨p, k⟩
  ·rw [if_neg hrq] at k
   by_cases hrp : r = p
   ·rw [if_pos hrp] at k; cases k
   ·rw [if_neg hrp] at k; exact ⟨r, k⟩
 ·have hnq : Pl.bx b j ≠ q := fun e => by rw [← e, at_loop h1] at hq; cases hq
  have hnp : Pl.bx b j ≠ p := fun e => by rw [← e, at_loop h1] at hp; cases hp
  exact ⟨by simp only [if_neg hnq, if_neg hnp]; exact h2, h3, fun h4 => h4⟩
theorem RS.forget (h : RS E G s a w) {s' : St} {n : Nat} (hn : s'.bs.length = n) (hlo : s'.lo = s.lo) (hlon : s.lo ≤ n) (hat : ∀ p x, s'.at p = some x -> s.at p = some x ∧ x.lt n = true)
  (hb : ∀ b cs, boxCells s'.bs b = some cs -> boxCells s.bs b = some cs) (hbl : ∀ b x, boxLoop s'.bs b = some x -> boxLoop s.bs b = some x) : RS E G s' a w := by
 subst hn; refine ⟨h.fr, h.ok, h.nt, fun p x hx => ?_, fun b j x hx => h.one b j x (hat _ _ hx).1, fun b cs k => h.box b cs (hb _ _ k), fun b cs k => h.bmem b cs (hb _ _ k), fun b b' cs cs' k k' => h.inj b b' cs cs' (hb _ _ k) (hb _ _ k'), fun p z l hp => h.own p z l (hat _ _ hp).1, h.clinj, fun p B hB b cs k => h.clbox p B hB b cs (hb _ _ k), h.cllt, hlo.trans h.lo, by rw [← h.lo]; exact hlon, h.sig, h.sp.loops hbl⟩
 obtain ⟨h1, h2⟩ := hat p x hx; exact (h.val p x h1).lt (by rw [lt_deown]; exact h2)
theorem RS.claim (h : RS E G s a w) {p : Pl} {l : List AV} (hp : s.at p = some (.sl .full l)) {z : Nat} (hz : ∀ y ∈ l, y.cells.length = z) : RS E G (s.upd p (.sl (.own z) l)) a w := by
 have hv := h.val p _ hp; simp only [AV.deown] at hv; refine ⟨h.fr, h.ok, h.nt, fun r u hu => ?_, fun b j u hu => ?_, fun b cs hb => ?_, fun b cs hb => ?_, fun b b' cs cs' hb hb' e => ?_, fun r z' l' hr => ?_, h.clinj, fun r B hB b cs hb => ?_, h.cllt, (St.upd_lo s p _).trans h.lo, by rw [St.upd_len]; exact h.len, h.sig, h.sp.loops fun _ _ k => St.upd_loop k⟩
 ·rw [St.at_upd s hp] at hu; rw [St.upd_len]
  by_cases hr : r = p
  ·rw [if_pos hr] at hu; cases hu; rw [hr]; exact hv.norm1
  ·rw [if_neg hr] at hu; exact h.val r u hu
 ·rw [St.at_upd s hp] at hu
  by_cases hr : Pl.bx b j = p
  ·exact h.one b j _ (hr ▸ hp)
  ·rw [if_neg hr] at hu; exact h.one b j u hu
 ·obtain ⟨ds, h1, h2⟩ := s.upd_box p _ b cs hb; obtain ⟨vs, T, h3, h4⟩ := h.box b ds h1; exact ⟨vs, T, h3, Nat.le_trans (by omega) h4⟩
 ·obtain ⟨ds, h1, h2⟩ := s.upd_box p _ b cs hb; exact h.bmem b ds h1
 ·obtain ⟨ds, h1, _⟩ := s.upd_box p _ b cs hb; obtain ⟨ds', h1', _⟩ := s.upd_box p _ b' cs' hb'; exact h.inj b b' ds ds' h1 h1' e
 ·rw [St.at_upd s hp] at hr
  by_cases hrp : r = p
  ·rw [if_pos hrp] at hr; cases hr; obtain ⟨ad, k, B, off, sz, h1, _, _, _, h2, _⟩ := hv.inv_sl; exact ⟨ad, k, by rw [hrp]; exact h1, hz, .inl (h2 rfl)⟩
  ·rw [if_neg hrp] at hr; exact h.own r z' l' hr
 ·obtain ⟨ds, h1, _⟩ := s.upd_box p _ b cs hb; exact h.clbox r B hB b ds h1
end
end Go.AM
namespace Go.AM
open Go.CK Go.RowKit
def F0 (rd : Option Nat) : Fence := { Fence.wide with round := rd }
inductive Opd where
 | t (k : Nat)
 | c (x : AV)
deriving Inhabited
def avOf1 : Value -> Option AV
 | .bool b => some (.bool b)
 | .int k n => some (.int k n)
 | .string s => if s.size ≤ lim then some (.str s) else none
 | .pointer none => some .nptr
 | .slice none 0 0 => some (.sl .full [])
 | .map none => some .nmp
 | .nilFunc => some .nfn
 | .nilIface => some .nifc
 | _ => none
def avsOf : List Value -> Option (List AV)
 | [] => some []
 | v :: vs => match avOf1 v, avsOf vs with
  | some x, some xs => some (x :: xs)
  | _, _ => none
def avOf : Value -> Option AV
 | .agg cs => (avsOf cs.toList).map .agg
 | v => avOf1 v
theorem avOf1_fv {M : Hp} {v : Value} {x : AV} (h : avOf1 v = some x) : FV M x v ∧ v.oneCell' = true := by
 unfold avOf1 at h; split at h <;> first | (cases h; done) | skip
 ·cases h; exact ⟨.bool _, rfl⟩
 ·cases h; exact ⟨.int _ _, rfl⟩
 ·split at h
  ·rename_i hs; cases h; exact ⟨.str _ hs, rfl⟩
  ·cases h
 ·cases h; exact ⟨.nptr, rfl⟩
 ·cases h; exact ⟨.sl .full [] none 0 0 0 0 (by simp) (Nat.le_refl _) (by simp) (fun _ => rfl) (by simp) (fun i h => by cases h) (fun i h => by cases h) (fun i h => by cases h), rfl⟩
 ·cases h; exact ⟨.nmp, rfl⟩
 ·cases h; exact ⟨.nfn, rfl⟩
 ·cases h; exact ⟨.nifc, rfl⟩
theorem avsOf_fv {M : Hp} : ∀ {vs : List Value} {xs : List AV}, avsOf vs = some xs -> vs.length = xs.length ∧ (∀ v ∈ vs, v.oneCell' = true) ∧ ∀ j (h : j < xs.length) v, vs[j]? = some v -> FV M xs[j] v
 | [], xs, h => by
  cases h
  exact ⟨rfl, (fun v hv => by cases hv), (fun j hj => by cases hj)⟩
 | v :: vs, xs, h => by
  simp only [avsOf] at h; split at h
  ·rename_i x xs' h1 h2; cases h; obtain ⟨a1, a2⟩ := avOf1_fv (M := M) h1; obtain ⟨b1, b2, b3⟩ := avsOf_fv (M := M) h2; refine ⟨by simp [b1], fun u hu => ?_, fun j hj u hu => ?_⟩
   ·rcases List.mem_cons.1 hu with rfl | hu
    ·exact a2
    ·exact b2 u hu
   ·cases j with
    | zero => simp at hu; subst hu; exact a1
    | succ j => simp at hu; simp at hj; exact b3 j hj u hu
  ·cases h
theorem avOf_fv {M : Hp} {v : Value} {x : AV} (h : avOf v = some x) : FV M x v := by
 unfold avOf at h; split at h
 ·rename_i cs
  cases hc : avsOf cs.toList with
  | none => rw [hc] at h; cases h
  | some xs =>
   rw [hc] at h; cases h; obtain ⟨h1, h2, h3⟩ := avsOf_fv (M := M) hc; have := FV.agg xs cs.toList h1 h2 h3; simpa using this
 ·exact (avOf1_fv h).1
def opd : Operand -> Option Opd
 | .tmp t => some (.t t)
 | .const v => (avOf v).map .c
 | .func f => some (.c (.fn (.func f) [] []))
 | .global _ => none
def St.ev (s : St) : Opd -> AV
 | .t k => (s.get k).deown
 | .c x => x
theorem St.get_at {s : St} {k : Nat} : s.get k = (s.at (.sl k)).getD .top := by
 simp only [St.get, St.at]; cases envGet s.env k <;> rfl
section
variable {E : Entry} {G : Gh} {s : St} {a : Act} {w : World} {P : Program}
theorem RS.getv (h : RS E G s a w) (k : Nat) : RV G.M G.σ s.bs.length (s.get k).deown (a.tmps.getD k undef) := by
 rw [St.get_at]
 cases hk : s.at (.sl k) with
 | none => exact .flat (.top _)
 | some x => exact h.val (.sl k) x hk
theorem RS.ev (h : RS E G s a w) {o : Operand} {r : Opd} (ho : opd o = some r) : RV G.M G.σ s.bs.length (s.ev r) (a.eval o) := by
 cases o with
 | tmp t => cases ho; exact h.getv t
 | const v =>
  simp only [opd] at ho
  cases hv : avOf v with
  | none => rw [hv] at ho; cases ho
  | some x => rw [hv] at ho; cases ho; exact .flat (avOf_fv hv)
 | func f => cases ho; exact .fn _ [] [] [] [] rfl rfl (fun j h => by cases h) (fun j h => by cases h)
 | global g => cases ho
end
def opds : List Operand -> Option (List Opd)
 | [] => some []
 | o :: os => match opd o, opds os with
  | some r, some rs => some (r :: rs)
  | _, _ => none
theorem opds_get : ∀ {os : List Operand} {rs : List Opd}, opds os = some rs -> os.length = rs.length ∧ ∀ (i : Nat) (o : Operand), os[i]? = some o -> ∃ r, rs[i]? = some r ∧ opd o = some r
 | [], rs, h => by cases h; exact ⟨rfl, fun i o ho => by cases ho⟩
 | o :: os, rs, h => by
  simp only [opds] at h; split at h
  ·rename_i r rs' h1 h2; cases h; obtain ⟨h3, h4⟩ := opds_get h2; refine ⟨by simp [h3], fun i o' ho => ?_⟩
   cases i with
   | zero => simp at ho; subst ho; exact ⟨r, rfl, h1⟩
   | succ i => simp at ho; simpa using h4 i o' ho
  ·cases h
def OpS (P : Program) (o : Oper) (s : St) (K : St -> Prop) : Prop :=
 ∀ (E : Entry) (G : Gh) (a : Act) (w : World) (rd : Option Nat) (n : Nat) (next : Act -> World -> Prop) (Q : Exit -> Act -> World -> Prop), RS E G s a w -> (∀ d, o.dst = some d -> d < E.nt) ->
  (∀ s' G' a' w', K s' -> RS E G' s' a' w' -> a'.defers = a.defers -> next a' w') -> o.wpIn (F0 rd) n P a w next Q
theorem put_defers (a : Act) (d : Option Tmp) (v : Value) : (a.put d v).defers = a.defers := by cases d <;> rfl
theorem OpS.val {P : Program} {o : Oper} {s : St} {K : St -> Prop} (x : AV) (s' : St) (hd : ∀ c, o.op ≠ .defer c) (hK : K (s'.put o.dst x))
  (h : ∀ E G a w, RS E G s a w -> ∃ v G' w', (execOp a.eval o).run P w = .ok (.value v) w' ∧ RS E G' s' a w' ∧ RV G'.M G'.σ s'.bs.length x v) : OpS P o s K := by
 intro E G a w rd n next Q hs hdst hnext
 obtain ⟨v, G', w', h1, h2, h3⟩ := h E G a w hs; refine ⟨fun _ _ => trivial, ?_⟩; rw [Oper.semAt_eq _ _ _ hd, h1]; exact hnext _ G' _ w' hK (h2.put' hdst h3) (put_defers _ _ _)
theorem OpS.pure {P : Program} {o : Oper} {s : St} {K : St -> Prop} (x : AV) (hd : ∀ c, o.op ≠ .defer c) (hK : K (s.put o.dst x))
  (h : ∀ E G a w, RS E G s a w -> ∃ v, (execOp a.eval o).run P w = .ok (.value v) w ∧ RV G.M G.σ s.bs.length x v) : OpS P o s K :=
 OpS.val x s hd hK fun E G a w hs => let ⟨v, h1, h2⟩ := h E G a w hs; ⟨v, G, w, h1, hs, h2⟩
theorem OpS.skip {P : Program} {o : Oper} {s : St} {K : St -> Prop} (s' : St) (hd : ∀ c, o.op ≠ .defer c) (hn : o.dst = none) (hK : K s')
  (h : ∀ E G a w, RS E G s a w -> ∃ G' w', (execOp a.eval o).run P w = .ok .skip w' ∧ RS E G' s' a w') : OpS P o s K := by
 intro E G a w rd n next Q hs hdst hnext
 obtain ⟨G', w', h1, h2⟩ := h E G a w hs; refine ⟨fun _ _ => trivial, ?_⟩; rw [Oper.semAt_eq _ _ _ hd, h1]; show next (a.put o.dst undef) w'
 rw [hn]; exact hnext s' G' a w' hK h2 rfl
def req (b : Bool) (K : Prop) : Prop := match b with
 | true => K
 | false => False
theorem req_iff {b : Bool} {K : Prop} : req b K ↔ b = true ∧ K := by cases b <;> simp [req]
def binK (op : BinOp) (a b : AV) (K : AV -> Prop) : Prop :=
 match a, b with
 | .int k x, .int k' y => req (decide (k = k')) (match op with
  | .add => K (.int k (k.wrap (x + y)))
  | .sub => K (.int k (k.wrap (x - y)))
  | .mul => K (.int k (k.wrap (x * y)))
  | .quo => y ≠ 0 ∧ K (.int k (k.wrap (x.tdiv y)))
  | .rem => y ≠ 0 ∧ K (.int k (x.tmod y))
  | .shr => 0 ≤ y ∧ K (.int k (x / 2 ^ min y.toNat k.bits))
  | .eql => K (.bool (decide (x = y)))
  | .neq => K (.bool (!decide (x = y)))
  | .lss => K (.bool (decide (x < y)))
  | .leq => K (.bool (decide (x ≤ y)))
  | .gtr => K (.bool (decide (y < x)))
  | .geq => K (.bool (decide (y ≤ x)))
  | _ => False)
 | .str x, .str y => match op with
  | .add => x.size + y.size ≤ lim ∧ K (.str (x ++ y))
  | .eql => K (.bool (decide (x = y)))
  | .neq => K (.bool (!decide (x = y)))
  | .lss => K (.bool (Op.bytesLess x.toList y.toList))
  | .leq => K (.bool (Op.bytesLess x.toList y.toList || decide (x = y)))
  | .gtr => K (.bool (!(Op.bytesLess x.toList y.toList || decide (x = y))))
  | .geq => K (.bool (!Op.bytesLess x.toList y.toList))
  | _ => False
 | _, _ => False
theorem bytes_inj {s t : ByteArray} : s.toList = t.toList ↔ s = t := by
 rw [ByteArray.toList_eq, ByteArray.toList_eq]; exact ⟨fun h => ByteArray.ext (Array.toList_inj.mp h), fun h => by rw [h]⟩
theorem str_eq (x y : ByteArray) : (x.toList == y.toList) = decide (x = y) := by
 rw [Bool.eq_iff_iff]; simp [bytes_inj]
theorem exec_binOp (P : Program) (ρ : Operand -> Value) (o : Oper) {op : BinOp} {t u : TypeId} {x y : Operand} (ho : o.op = .binOp op t x y u) (w : World) (hx : ∀ cs, ρ x ≠ .agg cs) (hn : ρ x ≠ .nilIface) :
  (execOp ρ o).run P w = ((binOp op t (ρ x) (ρ y)).run P w).andThen fun v w' => .ok (.value v) w' := by
 have hg : (eqGuard op t x y (ρ x) (ρ y)).run P w = .ok () w := by
  clear ho; cases op <;> first | rfl | (cases hv : ρ x <;> first | (exact absurd hv (hx _)) | (exact absurd hv hn) | (cases ρ y <;> rfl))
 unfold execOp; simp only [ho, Sem.run_bind, hg, Result.andThen_ok, Sem.run_pure]
theorem binK_sound {P : Program} {s : St} {o : Oper} {op : BinOp} {t u : TypeId} {x y : Operand} (ho : o.op = .binOp op t x y u) {rx ry : Opd} (hx : opd x = some rx) (hy : opd y = some ry) {K : St -> Prop}
  (h : binK op (s.ev rx) (s.ev ry) fun r => K (s.put o.dst r)) : OpS P o s K := by
 have hd : ∀ c, o.op ≠ .defer c := fun c e => by rw [ho] at e; cases e
 unfold binK at h; split at h
 ·rename_i k p k' q e1 e2; obtain ⟨hk0, h2⟩ := req_iff.1 h; have hk := of_decide_eq_true hk0; clear h hk0; subst hk; have h := h2; clear h2
  have hrun : ∀ E G a w, RS E G s a w -> a.eval x = .int k p ∧ a.eval y = .int k q := fun E G a w hs =>
   ⟨by have := hs.ev hx; rw [e1] at this; exact this.inv_int, by have := hs.ev hy; rw [e2] at this; exact this.inv_int⟩
  have fin : ∀ r v, K (s.put o.dst r) -> (∀ M, FV M r v) -> (∀ w, (binOp op t (.int k p) (.int k q)).run P w = .ok v w) -> OpS P o s K := fun r v hK hv hr =>
   OpS.pure r hd hK fun E G a w hs => by
    obtain ⟨h1, h2⟩ := hrun E G a w hs; refine ⟨v, ?_, .flat (hv _)⟩; rw [exec_binOp P _ o ho w (by rw [h1]; simp) (by rw [h1]; simp), h1, h2, hr w]; rfl
  cases op
  case add => exact fin _ _ h (fun _ => .int _ _) fun w => by simp [binOp, Op.intArith]
  case sub => exact fin _ _ h (fun _ => .int _ _) fun w => by simp [binOp, Op.intArith]
  case mul => exact fin _ _ h (fun _ => .int _ _) fun w => by simp [binOp, Op.intArith]
  case quo => exact fin _ _ h.2 (fun _ => .int _ _) fun w => by simp [binOp, Op.intDiv, h.1]
  case rem => exact fin _ _ h.2 (fun _ => .int _ _) fun w => by simp [binOp, Op.intDiv, h.1]
  case shr => exact fin _ _ h.2 (fun _ => .int _ _) fun w => by simp [binOp, shift_shr_any _ _ _ _ h.1]
  case eql => exact fin _ _ h (fun _ => .bool _) fun w => by simp [binOp, Op.intCmp]; rfl
  case neq => exact fin _ _ h (fun _ => .bool _) fun w => by simp [binOp, Op.intCmp]; rfl
  case lss => exact fin _ _ h (fun _ => .bool _) fun w => by simp [binOp, Op.intCmp]
  case leq => exact fin _ _ h (fun _ => .bool _) fun w => by simp [binOp, Op.intCmp]
  case gtr => exact fin _ _ h (fun _ => .bool _) fun w => by simp [binOp, Op.intCmp]
  case geq => exact fin _ _ h (fun _ => .bool _) fun w => by simp [binOp, Op.intCmp]
  all_goals exact h.elim
 ·rename_i p q e1 e2
  have hrun : ∀ E G a w, RS E G s a w -> a.eval x = .string p ∧ a.eval y = .string q := fun E G a w hs =>
   ⟨by have := hs.ev hx; rw [e1] at this; exact this.inv_str.1, by have := hs.ev hy; rw [e2] at this; exact this.inv_str.1⟩
  have fin : ∀ r v, K (s.put o.dst r) -> (∀ M, FV M r v) -> (∀ w, (binOp op t (.string p) (.string q)).run P w = .ok v w) -> OpS P o s K := fun r v hK hv hr =>
   OpS.pure r hd hK fun E G a w hs => by
    obtain ⟨h1, h2⟩ := hrun E G a w hs; refine ⟨v, ?_, .flat (hv _)⟩; rw [exec_binOp P _ o ho w (by rw [h1]; simp) (by rw [h1]; simp), h1, h2, hr w]; rfl
  cases op
  case add =>
   refine fin _ _ h.2 (fun _ => .str _ (by have h1 := h.1; rw [ByteArray.size_append]; exact h1)) fun w => ?_
   have h1 := h.1; have : ¬ ((p.size + q.size : Nat) : Int) > IntKind.i64.max := by ((try unfold glim at h1);(try unfold lim at h1)); simp [IntKind.max, IntKind.signed, IntKind.bits]; omega
   simp only [binOp, Op.stringOp, if_neg this, Sem.run_pure]
  case eql => exact fin _ _ h (fun _ => .bool _) fun w => by simp [binOp, Op.stringOp, str_eq]
  case neq => exact fin _ _ h (fun _ => .bool _) fun w => by simp [binOp, Op.stringOp, str_eq]
  case lss => exact fin _ _ h (fun _ => .bool _) fun w => by simp [binOp, Op.stringOp]
  case leq => exact fin _ _ h (fun _ => .bool _) fun w => by simp [binOp, Op.stringOp, str_eq]
  case gtr => exact fin _ _ h (fun _ => .bool _) fun w => by simp [binOp, Op.stringOp, str_eq]
  case geq => exact fin _ _ h (fun _ => .bool _) fun w => by simp [binOp, Op.stringOp]
  all_goals exact h.elim
 ·exact h.elim
end Go.AM
