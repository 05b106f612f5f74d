/-
  THE DATA OF THE PROGRAM, PLAIN, FURTHER: structs, and what it means that cells read as them. Printed by wip/gen/data.py. No function of the program is named here. By an AI agent.
-/
import Derived.Test.YtamhnlajkncccaaDoorTerm
set_option linter.unusedSimpArgs false
set_option linter.unusedVariables false
namespace Go.CK
open Go.RowKit

def RInt (_ : Hp) (c : List Value) (n : Int) : Prop := c = [.int .i64 n] ∧ IntOk n
def RStr (_ : Hp) (c : List Value) (s : ByteArray) : Prop := c = [.string s] ∧ s.size ≤ lim
def RBool (_ : Hp) (c : List Value) (b : Bool) : Prop := c = [.bool b]
theorem RInt.mono {H H' : Hp} (_h : H.le H') {c : List Value} {n : Int} (x : RInt H c n) : RInt H' c n := x
theorem RStr.mono {H H' : Hp} (_h : H.le H') {c : List Value} {n : ByteArray} (x : RStr H c n) : RStr H' c n := x
theorem RBool.mono {H H' : Hp} (_h : H.le H') {c : List Value} {n : Bool} (x : RBool H c n) : RBool H' c n := x
theorem up_RInt : Up RInt := fun _ _ _ _ h => RInt.mono h
theorem up_RStr : Up RStr := fun _ _ _ _ h => RStr.mono h
/-- a slice value -/
def RSl {α : Type} (sz : Nat) (R : Hp → List Value → α → Prop) (H : Hp) (c : List Value) (l : List α) : Prop := ∃ a k, c = [.slice a l.length k] ∧ l.length ≤ k ∧ Sl H sz (R H) a l
theorem RSl.mono {α : Type} {sz : Nat} {R : Hp → List Value → α → Prop} (hu : Up R) {H H' : Hp} (h : H.le H') {c : List Value} {l : List α} (x : RSl sz R H c l) : RSl sz R H' c l :=
  let ⟨a, k, e, h1, h2⟩ := x; ⟨a, k, e, h1, h2.mono h fun _ _ _ => hu _ _ _ _ h⟩
theorem up_RSl {α : Type} {sz : Nat} {R : Hp → List Value → α → Prop} (hu : Up R) : Up (RSl sz R) := fun _ _ _ _ h => RSl.mono hu h
abbrev RInts := RSl 1 RInt
theorem RTm.len {H : Hp} {c : List Value} {t : Tm} (h : RTm H c t) : c.length = 4 := by cases h; rfl
theorem up_RInts : Up RInts := up_RSl up_RInt

@[ext] structure At where
  name : ByteArray
  args : List Tm
deriving DecidableEq
def RAt (H : Hp) (c : List Value) (x : At) : Prop := ∃ a1 k1, c = [.string x.name, .slice a1 x.args.length k1] ∧ x.name.size ≤ lim ∧ x.args.length ≤ k1 ∧ Sl H 4 (RTm H) a1 x.args
theorem RAt.mono {H H' : Hp} (hH : H.le H') {c : List Value} {x : At} (h : RAt H c x) : RAt H' c x :=
  let ⟨a1, k1, e, h0, h1, h2⟩ := h; ⟨a1, k1, e, h0, h1, h2.mono hH fun _ _ _ => up_RTm _ _ _ _ hH⟩
theorem up_RAt : Up RAt := fun _ _ _ _ h => RAt.mono h
theorem RAt.one {H : Hp} {c : List Value} {x : At} (h : RAt H c x) : ∀ u ∈ c, u.oneCell' = true := by
  obtain ⟨a1, k1, rfl, _h0, _h1, _h2⟩ := h
  simp [Value.oneCell']
theorem RAt.len {H : Hp} {c : List Value} {x : At} (h : RAt H c x) : c.length = 2 := by
  obtain ⟨a1, k1, rfl, _h0, _h1, _h2⟩ := h
  rfl

@[ext] structure Gl where
  op : Int
  name : ByteArray
  args : List Tm
deriving DecidableEq
def RGl (H : Hp) (c : List Value) (x : Gl) : Prop := ∃ a1 k1, c = [.int .i64 x.op, .string x.name, .slice a1 x.args.length k1] ∧ IntOk x.op ∧ x.name.size ≤ lim ∧ x.args.length ≤ k1 ∧ Sl H 4 (RTm H) a1 x.args
theorem RGl.mono {H H' : Hp} (hH : H.le H') {c : List Value} {x : Gl} (h : RGl H c x) : RGl H' c x :=
  let ⟨a1, k1, e, h0, h1, h2, h3⟩ := h; ⟨a1, k1, e, h0, h1, h2, h3.mono hH fun _ _ _ => up_RTm _ _ _ _ hH⟩
theorem up_RGl : Up RGl := fun _ _ _ _ h => RGl.mono h
theorem RGl.one {H : Hp} {c : List Value} {x : Gl} (h : RGl H c x) : ∀ u ∈ c, u.oneCell' = true := by
  obtain ⟨a1, k1, rfl, _h0, _h1, _h2, _h3⟩ := h
  simp [Value.oneCell']
theorem RGl.len {H : Hp} {c : List Value} {x : Gl} (h : RGl H c x) : c.length = 3 := by
  obtain ⟨a1, k1, rfl, _h0, _h1, _h2, _h3⟩ := h
  rfl

@[ext] structure Dc where
  name : ByteArray
  arity : Int
deriving DecidableEq
def RDc (_H : Hp) (c : List Value) (x : Dc) : Prop := c = [.string x.name, .int .i64 x.arity] ∧ x.name.size ≤ lim ∧ IntOk x.arity
theorem RDc.mono {H H' : Hp} (_hH : H.le H') {c : List Value} {x : Dc} (h : RDc H c x) : RDc H' c x :=
  let ⟨e, h0, h1⟩ := h; ⟨e, h0, h1⟩
theorem up_RDc : Up RDc := fun _ _ _ _ h => RDc.mono h
theorem RDc.one {H : Hp} {c : List Value} {x : Dc} (h : RDc H c x) : ∀ u ∈ c, u.oneCell' = true := by
  obtain ⟨rfl, _h0, _h1⟩ := h
  simp [Value.oneCell']
theorem RDc.len {H : Hp} {c : List Value} {x : Dc} (h : RDc H c x) : c.length = 2 := by
  obtain ⟨rfl, _h0, _h1⟩ := h
  rfl

@[ext] structure Rl where
  name : ByteArray
  keep : List At
  remove : List At
  guard : List Gl
  body : List Gl
  vars : Int
deriving DecidableEq
def RRl (H : Hp) (c : List Value) (x : Rl) : Prop := ∃ a1 k1 a2 k2 a3 k3 a4 k4, c = [.string x.name, .slice a1 x.keep.length k1, .slice a2 x.remove.length k2, .slice a3 x.guard.length k3, .slice a4 x.body.length k4, .int .i64 x.vars] ∧ x.name.size ≤ lim ∧ x.keep.length ≤ k1 ∧ Sl H 2 (RAt H) a1 x.keep ∧ x.remove.length ≤ k2 ∧ Sl H 2 (RAt H) a2 x.remove ∧ x.guard.length ≤ k3 ∧ Sl H 3 (RGl H) a3 x.guard ∧ x.body.length ≤ k4 ∧ Sl H 3 (RGl H) a4 x.body ∧ IntOk x.vars
theorem RRl.mono {H H' : Hp} (hH : H.le H') {c : List Value} {x : Rl} (h : RRl H c x) : RRl H' c x :=
  let ⟨a1, k1, a2, k2, a3, k3, a4, k4, e, h0, h1, h2, h3, h4, h5, h6, h7, h8, h9⟩ := h; ⟨a1, k1, a2, k2, a3, k3, a4, k4, e, h0, h1, h2.mono hH fun _ _ _ => up_RAt _ _ _ _ hH, h3, h4.mono hH fun _ _ _ => up_RAt _ _ _ _ hH, h5, h6.mono hH fun _ _ _ => up_RGl _ _ _ _ hH, h7, h8.mono hH fun _ _ _ => up_RGl _ _ _ _ hH, h9⟩
theorem up_RRl : Up RRl := fun _ _ _ _ h => RRl.mono h
theorem RRl.one {H : Hp} {c : List Value} {x : Rl} (h : RRl H c x) : ∀ u ∈ c, u.oneCell' = true := by
  obtain ⟨a1, k1, a2, k2, a3, k3, a4, k4, rfl, _h0, _h1, _h2, _h3, _h4, _h5, _h6, _h7, _h8, _h9⟩ := h
  simp [Value.oneCell']
theorem RRl.len {H : Hp} {c : List Value} {x : Rl} (h : RRl H c x) : c.length = 6 := by
  obtain ⟨a1, k1, a2, k2, a3, k3, a4, k4, rfl, _h0, _h1, _h2, _h3, _h4, _h5, _h6, _h7, _h8, _h9⟩ := h
  rfl

@[ext] structure Pg where
  decls : List Dc
  rules : List Rl
deriving DecidableEq
def RPg (H : Hp) (c : List Value) (x : Pg) : Prop := ∃ a1 k1 a2 k2, c = [.slice a1 x.decls.length k1, .slice a2 x.rules.length k2] ∧ x.decls.length ≤ k1 ∧ Sl H 2 (RDc H) a1 x.decls ∧ x.rules.length ≤ k2 ∧ Sl H 6 (RRl H) a2 x.rules
theorem RPg.mono {H H' : Hp} (hH : H.le H') {c : List Value} {x : Pg} (h : RPg H c x) : RPg H' c x :=
  let ⟨a1, k1, a2, k2, e, h0, h1, h2, h3⟩ := h; ⟨a1, k1, a2, k2, e, h0, h1.mono hH fun _ _ _ => up_RDc _ _ _ _ hH, h2, h3.mono hH fun _ _ _ => up_RRl _ _ _ _ hH⟩
theorem up_RPg : Up RPg := fun _ _ _ _ h => RPg.mono h
theorem RPg.one {H : Hp} {c : List Value} {x : Pg} (h : RPg H c x) : ∀ u ∈ c, u.oneCell' = true := by
  obtain ⟨a1, k1, a2, k2, rfl, _h0, _h1, _h2, _h3⟩ := h
  simp [Value.oneCell']
theorem RPg.len {H : Hp} {c : List Value} {x : Pg} (h : RPg H c x) : c.length = 2 := by
  obtain ⟨a1, k1, a2, k2, rfl, _h0, _h1, _h2, _h3⟩ := h
  rfl

@[ext] structure Oc where
  rule : Int
  head : Int
  kept : Bool
deriving DecidableEq
def ROc (_H : Hp) (c : List Value) (x : Oc) : Prop := c = [.int .i64 x.rule, .int .i64 x.head, .bool x.kept] ∧ IntOk x.rule ∧ IntOk x.head
theorem ROc.mono {H H' : Hp} (_hH : H.le H') {c : List Value} {x : Oc} (h : ROc H c x) : ROc H' c x :=
  let ⟨e, h0, h1⟩ := h; ⟨e, h0, h1⟩
theorem up_ROc : Up ROc := fun _ _ _ _ h => ROc.mono h
theorem ROc.one {H : Hp} {c : List Value} {x : Oc} (h : ROc H c x) : ∀ u ∈ c, u.oneCell' = true := by
  obtain ⟨rfl, _h0, _h1⟩ := h
  simp [Value.oneCell']
theorem ROc.len {H : Hp} {c : List Value} {x : Oc} (h : ROc H c x) : c.length = 3 := by
  obtain ⟨rfl, _h0, _h1⟩ := h
  rfl

@[ext] structure Bd where
  var : Int
  term : Tm
deriving DecidableEq
def RBd (H : Hp) (c : List Value) (x : Bd) : Prop := ∃ c1, c = [.int .i64 x.var] ++ c1 ∧ IntOk x.var ∧ RTm H c1 x.term
theorem RBd.mono {H H' : Hp} (hH : H.le H') {c : List Value} {x : Bd} (h : RBd H c x) : RBd H' c x :=
  let ⟨c1, e, h0, h1⟩ := h; ⟨c1, e, h0, h1.mono hH⟩
theorem up_RBd : Up RBd := fun _ _ _ _ h => RBd.mono h
theorem RBd.one {H : Hp} {c : List Value} {x : Bd} (h : RBd H c x) : ∀ u ∈ c, u.oneCell' = true := by
  obtain ⟨c1, rfl, _h0, _h1⟩ := h
  have q0 := _h1.one
  intro u hu
  simp only [List.mem_append, List.mem_cons, List.not_mem_nil, or_false] at hu
  rcases hu with hu | hu
  all_goals first | exact q0 u hu | (subst hu; rfl) | (rcases hu with hu | hu <;> subst hu <;> rfl) | (rcases hu with hu | hu | hu <;> subst hu <;> rfl)

theorem RBd.len {H : Hp} {c : List Value} {x : Bd} (h : RBd H c x) : c.length = 5 := by
  obtain ⟨c1, rfl, _h0, _h1⟩ := h
  simp [_h1.len]

@[ext] structure It where
  id : Int
  atom : At
deriving DecidableEq
def RIt (H : Hp) (c : List Value) (x : It) : Prop := ∃ c1, c = [.int .i64 x.id] ++ c1 ∧ IntOk x.id ∧ RAt H c1 x.atom
theorem RIt.mono {H H' : Hp} (hH : H.le H') {c : List Value} {x : It} (h : RIt H c x) : RIt H' c x :=
  let ⟨c1, e, h0, h1⟩ := h; ⟨c1, e, h0, h1.mono hH⟩
theorem up_RIt : Up RIt := fun _ _ _ _ h => RIt.mono h
theorem RIt.one {H : Hp} {c : List Value} {x : It} (h : RIt H c x) : ∀ u ∈ c, u.oneCell' = true := by
  obtain ⟨c1, rfl, _h0, _h1⟩ := h
  have q0 := _h1.one
  intro u hu
  simp only [List.mem_append, List.mem_cons, List.not_mem_nil, or_false] at hu
  rcases hu with hu | hu
  all_goals first | exact q0 u hu | (subst hu; rfl) | (rcases hu with hu | hu <;> subst hu <;> rfl) | (rcases hu with hu | hu | hu <;> subst hu <;> rfl)

theorem RIt.len {H : Hp} {c : List Value} {x : It} (h : RIt H c x) : c.length = 3 := by
  obtain ⟨c1, rfl, _h0, _h1⟩ := h
  simp [_h1.len]

@[ext] structure Ft where
  id : Int
  atom : At
  just : List Int
deriving DecidableEq
def RFt (H : Hp) (c : List Value) (x : Ft) : Prop := ∃ c1 a2 k2, c = [.int .i64 x.id] ++ c1 ++ [.slice a2 x.just.length k2] ∧ IntOk x.id ∧ RAt H c1 x.atom ∧ x.just.length ≤ k2 ∧ Sl H 1 (RInt H) a2 x.just
theorem RFt.mono {H H' : Hp} (hH : H.le H') {c : List Value} {x : Ft} (h : RFt H c x) : RFt H' c x :=
  let ⟨c1, a2, k2, e, h0, h1, h2, h3⟩ := h; ⟨c1, a2, k2, e, h0, h1.mono hH, h2, h3.mono hH fun _ _ _ => up_RInt _ _ _ _ hH⟩
theorem up_RFt : Up RFt := fun _ _ _ _ h => RFt.mono h
theorem RFt.one {H : Hp} {c : List Value} {x : Ft} (h : RFt H c x) : ∀ u ∈ c, u.oneCell' = true := by
  obtain ⟨c1, a2, k2, rfl, _h0, _h1, _h2, _h3⟩ := h
  have q0 := _h1.one
  intro u hu
  simp only [List.mem_append, List.mem_cons, List.not_mem_nil, or_false] at hu
  rcases hu with (hu | hu) | hu
  all_goals first | exact q0 u hu | (subst hu; rfl) | (rcases hu with hu | hu <;> subst hu <;> rfl) | (rcases hu with hu | hu | hu <;> subst hu <;> rfl)

theorem RFt.len {H : Hp} {c : List Value} {x : Ft} (h : RFt H c x) : c.length = 4 := by
  obtain ⟨c1, a2, k2, rfl, _h0, _h1, _h2, _h3⟩ := h
  simp [_h1.len]

@[ext] structure Fr where
  rule : Int
  ids : List Int
deriving DecidableEq
def RFr (H : Hp) (c : List Value) (x : Fr) : Prop := ∃ a1 k1, c = [.int .i64 x.rule, .slice a1 x.ids.length k1] ∧ IntOk x.rule ∧ x.ids.length ≤ k1 ∧ Sl H 1 (RInt H) a1 x.ids
theorem RFr.mono {H H' : Hp} (hH : H.le H') {c : List Value} {x : Fr} (h : RFr H c x) : RFr H' c x :=
  let ⟨a1, k1, e, h0, h1, h2⟩ := h; ⟨a1, k1, e, h0, h1, h2.mono hH fun _ _ _ => up_RInt _ _ _ _ hH⟩
theorem up_RFr : Up RFr := fun _ _ _ _ h => RFr.mono h
theorem RFr.one {H : Hp} {c : List Value} {x : Fr} (h : RFr H c x) : ∀ u ∈ c, u.oneCell' = true := by
  obtain ⟨a1, k1, rfl, _h0, _h1, _h2⟩ := h
  simp [Value.oneCell']
theorem RFr.len {H : Hp} {c : List Value} {x : Fr} (h : RFr H c x) : c.length = 2 := by
  obtain ⟨a1, k1, rfl, _h0, _h1, _h2⟩ := h
  rfl

@[ext] structure Fm where
  goal : Gl
  id : Int
  occ : Int
deriving DecidableEq
def RFm (H : Hp) (c : List Value) (x : Fm) : Prop := ∃ c1, c = c1 ++ [.int .i64 x.id, .int .i64 x.occ] ∧ RGl H c1 x.goal ∧ IntOk x.id ∧ IntOk x.occ
theorem RFm.mono {H H' : Hp} (hH : H.le H') {c : List Value} {x : Fm} (h : RFm H c x) : RFm H' c x :=
  let ⟨c1, e, h0, h1, h2⟩ := h; ⟨c1, e, h0.mono hH, h1, h2⟩
theorem up_RFm : Up RFm := fun _ _ _ _ h => RFm.mono h
theorem RFm.one {H : Hp} {c : List Value} {x : Fm} (h : RFm H c x) : ∀ u ∈ c, u.oneCell' = true := by
  obtain ⟨c1, rfl, _h0, _h1, _h2⟩ := h
  have q0 := _h0.one
  intro u hu
  simp only [List.mem_append, List.mem_cons, List.not_mem_nil, or_false] at hu
  rcases hu with hu | hu
  all_goals first | exact q0 u hu | (subst hu; rfl) | (rcases hu with hu | hu <;> subst hu <;> rfl) | (rcases hu with hu | hu | hu <;> subst hu <;> rfl)

theorem RFm.len {H : Hp} {c : List Value} {x : Fm} (h : RFm H c x) : c.length = 5 := by
  obtain ⟨c1, rfl, _h0, _h1, _h2⟩ := h
  simp [_h0.len]

@[ext] structure Ev where
  kind : Int
  id : Int
  occ : Int
  rule : Int
  ids : List Int
deriving DecidableEq
def REv (H : Hp) (c : List Value) (x : Ev) : Prop := ∃ a1 k1, c = [.int .i64 x.kind, .int .i64 x.id, .int .i64 x.occ, .int .i64 x.rule, .slice a1 x.ids.length k1] ∧ IntOk x.kind ∧ IntOk x.id ∧ IntOk x.occ ∧ IntOk x.rule ∧ x.ids.length ≤ k1 ∧ Sl H 1 (RInt H) a1 x.ids
theorem REv.mono {H H' : Hp} (hH : H.le H') {c : List Value} {x : Ev} (h : REv H c x) : REv H' c x :=
  let ⟨a1, k1, e, h0, h1, h2, h3, h4, h5⟩ := h; ⟨a1, k1, e, h0, h1, h2, h3, h4, h5.mono hH fun _ _ _ => up_RInt _ _ _ _ hH⟩
theorem up_REv : Up REv := fun _ _ _ _ h => REv.mono h
theorem REv.one {H : Hp} {c : List Value} {x : Ev} (h : REv H c x) : ∀ u ∈ c, u.oneCell' = true := by
  obtain ⟨a1, k1, rfl, _h0, _h1, _h2, _h3, _h4, _h5⟩ := h
  simp [Value.oneCell']
theorem REv.len {H : Hp} {c : List Value} {x : Ev} (h : REv H c x) : c.length = 5 := by
  obtain ⟨a1, k1, rfl, _h0, _h1, _h2, _h3, _h4, _h5⟩ := h
  rfl

@[ext] structure Pl where
  occ : Oc
  order : List Int
  known : List (List Int)
  tests : List (List Int)
deriving DecidableEq
def RPl (H : Hp) (c : List Value) (x : Pl) : Prop := ∃ c1 a2 k2 a3 k3 a4 k4, c = c1 ++ [.slice a2 x.order.length k2, .slice a3 x.known.length k3, .slice a4 x.tests.length k4] ∧ ROc H c1 x.occ ∧ x.order.length ≤ k2 ∧ Sl H 1 (RInt H) a2 x.order ∧ x.known.length ≤ k3 ∧ Sl H 1 (RInts H) a3 x.known ∧ x.tests.length ≤ k4 ∧ Sl H 1 (RInts H) a4 x.tests
theorem RPl.mono {H H' : Hp} (hH : H.le H') {c : List Value} {x : Pl} (h : RPl H c x) : RPl H' c x :=
  let ⟨c1, a2, k2, a3, k3, a4, k4, e, h0, h1, h2, h3, h4, h5, h6⟩ := h; ⟨c1, a2, k2, a3, k3, a4, k4, e, h0.mono hH, h1, h2.mono hH fun _ _ _ => up_RInt _ _ _ _ hH, h3, h4.mono hH fun _ _ _ => up_RInts _ _ _ _ hH, h5, h6.mono hH fun _ _ _ => up_RInts _ _ _ _ hH⟩
theorem up_RPl : Up RPl := fun _ _ _ _ h => RPl.mono h
theorem RPl.one {H : Hp} {c : List Value} {x : Pl} (h : RPl H c x) : ∀ u ∈ c, u.oneCell' = true := by
  obtain ⟨c1, a2, k2, a3, k3, a4, k4, rfl, _h0, _h1, _h2, _h3, _h4, _h5, _h6⟩ := h
  have q0 := _h0.one
  intro u hu
  simp only [List.mem_append, List.mem_cons, List.not_mem_nil, or_false] at hu
  rcases hu with hu | hu
  all_goals first | exact q0 u hu | (subst hu; rfl) | (rcases hu with hu | hu <;> subst hu <;> rfl) | (rcases hu with hu | hu | hu <;> subst hu <;> rfl)

theorem RPl.len {H : Hp} {c : List Value} {x : Pl} (h : RPl H c x) : c.length = 6 := by
  obtain ⟨c1, a2, k2, a3, k3, a4, k4, rfl, _h0, _h1, _h2, _h3, _h4, _h5, _h6⟩ := h
  simp [_h0.len]

@[ext] structure Ac where
  name : ByteArray
  arity : Int
  positions : List Int
deriving DecidableEq
def RAc (H : Hp) (c : List Value) (x : Ac) : Prop := ∃ a1 k1, c = [.string x.name, .int .i64 x.arity, .slice a1 x.positions.length k1] ∧ x.name.size ≤ lim ∧ IntOk x.arity ∧ x.positions.length ≤ k1 ∧ Sl H 1 (RInt H) a1 x.positions
theorem RAc.mono {H H' : Hp} (hH : H.le H') {c : List Value} {x : Ac} (h : RAc H c x) : RAc H' c x :=
  let ⟨a1, k1, e, h0, h1, h2, h3⟩ := h; ⟨a1, k1, e, h0, h1, h2, h3.mono hH fun _ _ _ => up_RInt _ _ _ _ hH⟩
theorem up_RAc : Up RAc := fun _ _ _ _ h => RAc.mono h
theorem RAc.one {H : Hp} {c : List Value} {x : Ac} (h : RAc H c x) : ∀ u ∈ c, u.oneCell' = true := by
  obtain ⟨a1, k1, rfl, _h0, _h1, _h2, _h3⟩ := h
  simp [Value.oneCell']
theorem RAc.len {H : Hp} {c : List Value} {x : Ac} (h : RAc H c x) : c.length = 3 := by
  obtain ⟨a1, k1, rfl, _h0, _h1, _h2, _h3⟩ := h
  rfl

@[ext] structure Ky where
  name : ByteArray
  arity : Int
  positions : List Int
deriving DecidableEq
def RKy (H : Hp) (c : List Value) (x : Ky) : Prop := ∃ a1 k1, c = [.string x.name, .int .i64 x.arity, .slice a1 x.positions.length k1] ∧ x.name.size ≤ lim ∧ IntOk x.arity ∧ x.positions.length ≤ k1 ∧ Sl H 1 (RInt H) a1 x.positions
theorem RKy.mono {H H' : Hp} (hH : H.le H') {c : List Value} {x : Ky} (h : RKy H c x) : RKy H' c x :=
  let ⟨a1, k1, e, h0, h1, h2, h3⟩ := h; ⟨a1, k1, e, h0, h1, h2, h3.mono hH fun _ _ _ => up_RInt _ _ _ _ hH⟩
theorem up_RKy : Up RKy := fun _ _ _ _ h => RKy.mono h
theorem RKy.one {H : Hp} {c : List Value} {x : Ky} (h : RKy H c x) : ∀ u ∈ c, u.oneCell' = true := by
  obtain ⟨a1, k1, rfl, _h0, _h1, _h2, _h3⟩ := h
  simp [Value.oneCell']
theorem RKy.len {H : Hp} {c : List Value} {x : Ky} (h : RKy H c x) : c.length = 3 := by
  obtain ⟨a1, k1, rfl, _h0, _h1, _h2, _h3⟩ := h
  rfl

@[ext] structure Ct where
  rules : List Int
  tried : Int
  goals : Int
  steps : Int
deriving DecidableEq
def RCt (H : Hp) (c : List Value) (x : Ct) : Prop := ∃ a1 k1, c = [.slice a1 x.rules.length k1, .int .i64 x.tried, .int .i64 x.goals, .int .i64 x.steps] ∧ x.rules.length ≤ k1 ∧ Sl H 1 (RInt H) a1 x.rules ∧ IntOk x.tried ∧ IntOk x.goals ∧ IntOk x.steps
theorem RCt.mono {H H' : Hp} (hH : H.le H') {c : List Value} {x : Ct} (h : RCt H c x) : RCt H' c x :=
  let ⟨a1, k1, e, h0, h1, h2, h3, h4⟩ := h; ⟨a1, k1, e, h0, h1.mono hH fun _ _ _ => up_RInt _ _ _ _ hH, h2, h3, h4⟩
theorem up_RCt : Up RCt := fun _ _ _ _ h => RCt.mono h
theorem RCt.one {H : Hp} {c : List Value} {x : Ct} (h : RCt H c x) : ∀ u ∈ c, u.oneCell' = true := by
  obtain ⟨a1, k1, rfl, _h0, _h1, _h2, _h3, _h4⟩ := h
  simp [Value.oneCell']
theorem RCt.len {H : Hp} {c : List Value} {x : Ct} (h : RCt H c x) : c.length = 4 := by
  obtain ⟨a1, k1, rfl, _h0, _h1, _h2, _h3, _h4⟩ := h
  rfl

end Go.CK
