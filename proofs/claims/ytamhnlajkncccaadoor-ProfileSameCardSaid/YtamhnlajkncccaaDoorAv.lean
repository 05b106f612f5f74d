/-
  THE DATA OF THE PROGRAM AS VALUES OF THE ABSTRACT MACHINE. Printed by wip/gen/av.py. No function of the program is named here. By an AI agent.
-/
import Derived.Test.YtamhnlajkncccaaDoorAmP
import Derived.Test.YtamhnlajkncccaaDoorData
set_option linter.unusedSimpArgs false
set_option linter.unusedVariables false
namespace Go.CK
open Go.RowKit Go.AM

abbrev intA (n : Int) : AV := .int .i64 n
abbrev boolA (b : Bool) : AV := .bool b
abbrev strA (s : ByteArray) : AV := .str s
abbrev slA {α : Type} (f : α → AV) (l : List α) : AV := .sl .no (l.map f)
/-- the cells c read as cs -/
def CF (M : Hp) (cs : List AV) (c : List Value) : Prop := c.length = cs.length ∧ ∀ j (h : j < cs.length) v, c[j]? = some v → FV M cs[j] v
theorem CF.nil {M : Hp} : CF M [] [] := ⟨rfl, fun j h => by cases h⟩
theorem CF.cons {M : Hp} {x : AV} {cs : List AV} {v : Value} {c : List Value} (h : FV M x v) (k : CF M cs c) : CF M (x :: cs) (v :: c) :=
  ⟨by simp [k.1], fun j hj u hu => by
    cases j with
    | zero => simp only [List.getElem?_cons_zero, Option.some.injEq] at hu; subst hu; exact h
    | succ j => exact k.2 j (by simpa using hj) u (by simpa using hu)⟩
theorem CF.app {M : Hp} {cs ds : List AV} {c d : List Value} (h : CF M cs c) (k : CF M ds d) : CF M (cs ++ ds) (c ++ d) := by
  refine ⟨by simp [h.1, k.1], fun j hj u hu => ?_⟩
  by_cases e : j < cs.length
  · rw [List.getElem?_append_left (by rw [h.1]; exact e)] at hu
    rw [List.getElem_append_left e]
    exact h.2 j e u hu
  · rw [List.getElem?_append_right (by rw [h.1]; omega)] at hu
    rw [List.getElem_append_right (by omega)]
    have := k.2 (j - cs.length) (by simp at hj; omega) u (by rw [h.1] at hu; exact hu)
    exact this
theorem CF.agg {M : Hp} {cs : List AV} {c : List Value} (h : CF M cs c) (h1 : ∀ u ∈ c, u.oneCell' = true) : FV M (.agg cs) (.agg c.toArray) := .agg cs c h.1 h1 h.2
/-- what is said of cells is said of values: one that takes one cell, or several -/
theorem Sl.fv {α : Type} {R : Hp → List Value → α → Prop} {f : α → AV} {M : Hp} {sz : Nat} {a : Option Addr} {l : List α} {k : Nat} (h : Sl M sz (R M) a l) (hk : l.length ≤ k) (hR : ∀ x ∈ l, ∀ c, R M c x → CF M (f x).cells c ∧ ∀ u ∈ c, u.oneCell' = true) : FV M (.sl .no (l.map f)) (.slice a l.length k) := by
  have hlen : (l.map f).length = l.length := by simp
  rw [← hlen]
  by_cases h0 : 0 < l.length
  · obtain ⟨b, o, ha⟩ := h.addr h0
    refine FV.mk_sl (B := b) (off := o) (sz := sz) (fun z e => by cases e) (by rw [hlen]; exact hk) (by rw [hlen]; exact h.le) (fun e => by cases e) (fun _ => ha) (fun i hi => ?_)
    rw [hlen] at hi
    obtain ⟨b', o', cs, h1, h2, h3, h4⟩ := h.at_ i hi
    rw [ha] at h1
    simp only [Option.some.injEq, Addr.mk.injEq, and_true] at h1
    obtain ⟨rfl, rfl⟩ := h1
    obtain ⟨⟨h5, h6⟩, h7⟩ := hR _ (List.getElem_mem hi) cs h4
    rw [List.getElem_map]
    refine ⟨by rw [← h5, h2], fun j hj => ?_⟩
    have hj2 : j < cs.length := by rw [h5]; exact hj
    have hj3 : cs[j]? = some cs[j] := List.getElem?_eq_getElem hj2
    exact ⟨cs[j], h3 j _ hj3, h7 _ (List.getElem_mem hj2), h6 j hj _ hj3⟩
  · have : l = [] := List.length_eq_zero_iff.1 (by omega)
    subst this
    exact FV.mk_sl (B := 0) (off := 0) (sz := 0) (fun z e => by cases e) (by simp) (by simp) (fun e => by cases e) (fun e => absurd rfl e) (fun i hi => by cases hi)
theorem RInt.cf {M : Hp} {c : List Value} {n : Int} (h : RInt M c n) : CF M (intA n).cells c ∧ ∀ u ∈ c, u.oneCell' = true := by
  obtain ⟨rfl, _⟩ := h
  exact ⟨.cons (.int _ _) .nil, by simp [Value.oneCell']⟩
theorem RBool.cf {M : Hp} {c : List Value} {n : Bool} (h : RBool M c n) : CF M (boolA n).cells c ∧ ∀ u ∈ c, u.oneCell' = true := by
  cases h
  exact ⟨.cons (.bool _) .nil, by simp [Value.oneCell']⟩
theorem RStr.cf {M : Hp} {c : List Value} {n : ByteArray} (h : RStr M c n) : CF M (strA n).cells c ∧ ∀ u ∈ c, u.oneCell' = true := by
  obtain ⟨rfl, hs⟩ := h
  exact ⟨.cons (.str _ hs) .nil, by simp [Value.oneCell']⟩
theorem RSl.cf {α : Type} {R : Hp → List Value → α → Prop} {f : α → AV} {M : Hp} {sz : Nat} {c : List Value} {l : List α} (h : RSl sz R M c l) (hR : ∀ x ∈ l, ∀ c, R M c x → CF M (f x).cells c ∧ ∀ u ∈ c, u.oneCell' = true) : CF M (slA f l).cells c ∧ ∀ u ∈ c, u.oneCell' = true := by
  obtain ⟨a, k, rfl, h1, h2⟩ := h
  exact ⟨.cons (h2.fv h1 hR) .nil, by simp [Value.oneCell']⟩

mutual
/-- a term -/
def Tm.av : Tm → AV
  | .mk k n s l => .agg [.int .i64 k, .int .i64 n, .str s, .sl .no (Tm.avs l)]
def Tm.avs : List Tm → List AV
  | [] => []
  | t :: l => Tm.av t :: Tm.avs l
end
theorem Tm.avs_map : ∀ l : List Tm, Tm.avs l = l.map Tm.av
  | [] => rfl
  | t :: l => by rw [Tm.avs, Tm.avs_map l]; rfl
/-- a term, written out -/
def Tm.avw (t : Tm) : AV := .agg [.int .i64 t.kind, .int .i64 t.num, .str t.name, .sl .no (t.args.map Tm.av)]
theorem Tm.av_w (t : Tm) : t.av = t.avw := by
  obtain ⟨k, n, s, l⟩ := t
  rw [Tm.av, Tm.avs_map]; rfl
theorem Tm.av_cells (t : Tm) : t.av.cells.length = 4 := by rw [Tm.av_w]; rfl
theorem RTm.cf {M : Hp} {c : List Value} {t : Tm} (h : RTm M c t) : CF M t.av.cells c ∧ ∀ u ∈ c, u.oneCell' = true := by
  refine ⟨?_, h.one⟩
  induction t using Tm.ind_all generalizing c with
  | h k n s l ih =>
    obtain ⟨a, cap, rfl, ik, iN, is, ic, hsl⟩ := h.inv
    rw [Tm.av, Tm.avs_map]
    exact .cons (.int _ _) (.cons (.int _ _) (.cons (.str _ is) (.cons (hsl.fv ic fun x hx c hc => ⟨ih x hx hc, hc.one⟩) .nil)))
theorem RTm.fv {M : Hp} {c : List Value} {t : Tm} (h : RTm M c t) : FV M t.av (.agg c.toArray) := by
  have := h.cf
  rw [Tm.av_w] at this ⊢
  exact this.1.agg this.2

/-! ### what is known of values that are there -/
end Go.CK
namespace Go.AM
def AV.good (x : AV) : Prop := ∃ M v, FV M x v
end Go.AM
namespace Go.CK
open Go.RowKit Go.AM
theorem good_str {s : ByteArray} (h : (AV.str s).good) : s.size ≤ 9223372036854775807 := by
  obtain ⟨M, v, h⟩ := h
  cases h with
  | str _ h => exact h
theorem good_agg {cs : List AV} (h : (AV.agg cs).good) : ∀ c ∈ cs, c.good := by
  obtain ⟨M, v, h⟩ := h
  cases h with
  | agg _ vs hl h1 hv =>
    intro c hc
    obtain ⟨j, hj, rfl⟩ := List.getElem_of_mem hc
    exact ⟨M, vs[j], hv j hj _ (List.getElem?_eq_getElem (by omega))⟩
theorem good_sl {o : Cap} {l : List AV} (h : (AV.sl o l).good) : l.length ≤ 9223372036854775807 ∧ ∀ y ∈ l, y.good := by
  obtain ⟨M, v, h⟩ := h
  obtain ⟨a, k, B, off, sz, _, _, _, hl, _, _, he⟩ := h.inv_sl
  refine ⟨hl, fun y hy => ?_⟩
  obtain ⟨i, hi, rfl⟩ := List.getElem_of_mem hy
  obtain ⟨_, hc⟩ := he i hi
  generalize l[i] = y at hc
  by_cases ha : ∃ cs, y = .agg cs
  · obtain ⟨cs, rfl⟩ := ha
    have hx : ∀ j, ∃ v : Value, ∀ (h : j < cs.length), v.oneCell' = true ∧ FV M cs[j] v := fun j => by
      by_cases hj : j < cs.length
      · obtain ⟨v, _, h2, h3⟩ := hc j hj
        exact ⟨v, fun _ => ⟨h2, h3⟩⟩
      · exact ⟨undef, fun h => absurd h hj⟩
    refine ⟨M, .agg (List.ofFn fun j : Fin cs.length => (hx j).choose).toArray, .agg cs _ (by simp) (fun v hv => ?_) (fun j hj v hjv => ?_)⟩
    · obtain ⟨j, rfl⟩ := List.mem_ofFn.1 hv
      exact ((hx j).choose_spec j.2).1
    · rw [List.getElem?_ofFn, dif_pos hj] at hjv
      cases hjv
      exact ((hx j).choose_spec hj).2
  · have h1 : y.cells = [y] := by
      cases y <;> first | rfl | exact absurd ⟨_, rfl⟩ ha
    obtain ⟨v, _, _, h3⟩ := hc 0 (by rw [h1]; simp)
    have : y.cells[0]'(by rw [h1]; simp) = y := by simp [h1]
    rw [this] at h3
    exact ⟨M, v, h3⟩
theorem good_sla {α : Type} {f : α → AV} {l : List α} (h : (AV.sl .no (l.map f)).good) : l.length ≤ 9223372036854775807 ∧ ∀ y ∈ l, (f y).good := by
  obtain ⟨h1, h2⟩ := good_sl h
  exact ⟨by simpa using h1, fun y hy => h2 _ (List.mem_map.2 ⟨y, hy, rfl⟩)⟩
theorem good_tm {t : Tm} (h : t.avw.good) : t.name.size ≤ 9223372036854775807 ∧ t.args.length ≤ 9223372036854775807 ∧ ∀ x ∈ t.args, x.avw.good := by
  have hs := good_sla (good_agg h (.sl .no (t.args.map Tm.av)) (by simp))
  exact ⟨good_str (good_agg h (.str t.name) (by simp)), hs.1, fun x hx => by rw [← Tm.av_w]; exact hs.2 x hx⟩
theorem good_tmv {t : Tm} (h : t.av.good) : t.avw.good := by rw [← Tm.av_w]; exact h
/-- what is handed in is there -/
theorem Fun.assume {P : Program} {f : FuncId} {vals : List AV} {r : AV} (hf : vals.all AV.flat = true) (h : (∀ x ∈ vals, x.good) → Fun P f vals r) : Fun P f vals r := fun bs E G a0 w args lo h1 h2 h3 => by
  refine h (fun x hx => ?_) bs E G a0 w args lo h1 h2 h3
  obtain ⟨j, hj, rfl⟩ := List.getElem_of_mem hx
  have hjv : args[j]? = some (args[j]'(by omega)) := List.getElem?_eq_getElem (by omega)
  exact ⟨G.M, _, (h3 j hj _ hjv).toFV (List.all_eq_true.1 hf _ (List.getElem_mem hj))⟩

/-! ### elements that are terms -/
theorem IdxN.tmK {l : List Tm} {n : Nat} {K : AV → Prop} {x : Tm} (h : l[n]? = some x) (k : K x.avw) : IdxN 4 (l.map Tm.av) (n : Int) K := .known (by simpa using h) (by omega) Tm.av_cells (by rw [Tm.av_w]; exact k)
theorem IdxN.tmKI {l : List Tm} {n : Int} {K : AV → Prop} {x : Tm} (h : l[n.toNat]? = some x) (h0 : 0 ≤ n) (k : K x.avw) : IdxN 4 (l.map Tm.av) n K := .known h h0 Tm.av_cells (by rw [Tm.av_w]; exact k)
theorem IdxN.tm {l : List Tm} {n : Nat} {K : AV → Prop} (h1 : n < l.length) (k : ∀ x, l[n]? = some x → K x.avw) : IdxN 4 (l.map Tm.av) (n : Int) K := .mapN h1 Tm.av_cells fun x hx => by rw [Tm.av_w]; exact k x hx
theorem IdxN.tmI {l : List Tm} {n : Int} {K : AV → Prop} (h0 : 0 ≤ n) (h1 : n < l.length) (k : ∀ x, l[n.toNat]? = some x → K x.avw) : IdxN 4 (l.map Tm.av) n K := .map h0 h1 Tm.av_cells fun x hx => by rw [Tm.av_w]; exact k x hx
theorem Szs.tm {l : List Tm} : Szs 4 (l.map Tm.av) := .map Tm.av_cells

def At.av (x : At) : AV := .agg [.str x.name, .sl .no (x.args.map Tm.av)]
theorem RAt.cf {M : Hp} {c : List Value} {x : At} (h : RAt M c x) : CF M x.av.cells c ∧ ∀ u ∈ c, u.oneCell' = true := by
  refine ⟨?_, h.one⟩
  obtain ⟨a1, k1, rfl, q0, q1, q2⟩ := h
  exact (.cons (.str x.name q0) (.cons (q2.fv q1 (fun _ _ _ hc => RTm.cf hc)) .nil))
theorem At.good {x : At} (h : x.av.good) : x.name.size ≤ 9223372036854775807 ∧ (x.args.length ≤ 9223372036854775807 ∧ ∀ y ∈ x.args, y.avw.good) := ⟨good_str (good_agg h (.str x.name) (by simp)), ⟨(good_sla (good_agg h (.sl .no (x.args.map Tm.av)) (by simp))).1, fun y hy => good_tmv ((good_sla (good_agg h (.sl .no (x.args.map Tm.av)) (by simp))).2 y hy)⟩⟩
theorem RAt.fv {M : Hp} {c : List Value} {x : At} (h : RAt M c x) : FV M x.av (.agg c.toArray) := h.cf.1.agg h.cf.2

def Gl.av (x : Gl) : AV := .agg [.int .i64 x.op, .str x.name, .sl .no (x.args.map Tm.av)]
theorem RGl.cf {M : Hp} {c : List Value} {x : Gl} (h : RGl M c x) : CF M x.av.cells c ∧ ∀ u ∈ c, u.oneCell' = true := by
  refine ⟨?_, h.one⟩
  obtain ⟨a1, k1, rfl, _, q1, q2, q3⟩ := h
  exact (.cons (.int .i64 x.op) (.cons (.str x.name q1) (.cons (q3.fv q2 (fun _ _ _ hc => RTm.cf hc)) .nil)))
theorem Gl.good {x : Gl} (h : x.av.good) : x.name.size ≤ 9223372036854775807 ∧ (x.args.length ≤ 9223372036854775807 ∧ ∀ y ∈ x.args, y.avw.good) := ⟨good_str (good_agg h (.str x.name) (by simp)), ⟨(good_sla (good_agg h (.sl .no (x.args.map Tm.av)) (by simp))).1, fun y hy => good_tmv ((good_sla (good_agg h (.sl .no (x.args.map Tm.av)) (by simp))).2 y hy)⟩⟩
theorem RGl.fv {M : Hp} {c : List Value} {x : Gl} (h : RGl M c x) : FV M x.av (.agg c.toArray) := h.cf.1.agg h.cf.2

def Dc.av (x : Dc) : AV := .agg [.str x.name, .int .i64 x.arity]
theorem RDc.cf {M : Hp} {c : List Value} {x : Dc} (h : RDc M c x) : CF M x.av.cells c ∧ ∀ u ∈ c, u.oneCell' = true := by
  refine ⟨?_, h.one⟩
  obtain ⟨rfl, q0, _⟩ := h
  exact (.cons (.str x.name q0) (.cons (.int .i64 x.arity) .nil))
theorem Dc.good {x : Dc} (h : x.av.good) : x.name.size ≤ 9223372036854775807 := good_str (good_agg h (.str x.name) (by simp))
theorem RDc.fv {M : Hp} {c : List Value} {x : Dc} (h : RDc M c x) : FV M x.av (.agg c.toArray) := h.cf.1.agg h.cf.2

def Rl.av (x : Rl) : AV := .agg [.str x.name, .sl .no (x.keep.map At.av), .sl .no (x.remove.map At.av), .sl .no (x.guard.map Gl.av), .sl .no (x.body.map Gl.av), .int .i64 x.vars]
theorem RRl.cf {M : Hp} {c : List Value} {x : Rl} (h : RRl M c x) : CF M x.av.cells c ∧ ∀ u ∈ c, u.oneCell' = true := by
  refine ⟨?_, h.one⟩
  obtain ⟨a1, k1, a2, k2, a3, k3, a4, k4, rfl, q0, q1, q2, q3, q4, q5, q6, q7, q8, _⟩ := h
  exact (.cons (.str x.name q0) (.cons (q2.fv q1 (fun _ _ _ hc => RAt.cf hc)) (.cons (q4.fv q3 (fun _ _ _ hc => RAt.cf hc)) (.cons (q6.fv q5 (fun _ _ _ hc => RGl.cf hc)) (.cons (q8.fv q7 (fun _ _ _ hc => RGl.cf hc)) (.cons (.int .i64 x.vars) .nil))))))
theorem Rl.good {x : Rl} (h : x.av.good) : x.name.size ≤ 9223372036854775807 ∧ (x.keep.length ≤ 9223372036854775807 ∧ ∀ y ∈ x.keep, (At.av y).good) ∧ (x.remove.length ≤ 9223372036854775807 ∧ ∀ y ∈ x.remove, (At.av y).good) ∧ (x.guard.length ≤ 9223372036854775807 ∧ ∀ y ∈ x.guard, (Gl.av y).good) ∧ (x.body.length ≤ 9223372036854775807 ∧ ∀ y ∈ x.body, (Gl.av y).good) := ⟨good_str (good_agg h (.str x.name) (by simp)), good_sla (good_agg h (.sl .no (x.keep.map At.av)) (by simp)), good_sla (good_agg h (.sl .no (x.remove.map At.av)) (by simp)), good_sla (good_agg h (.sl .no (x.guard.map Gl.av)) (by simp)), good_sla (good_agg h (.sl .no (x.body.map Gl.av)) (by simp))⟩
theorem RRl.fv {M : Hp} {c : List Value} {x : Rl} (h : RRl M c x) : FV M x.av (.agg c.toArray) := h.cf.1.agg h.cf.2

def Pg.av (x : Pg) : AV := .agg [.sl .no (x.decls.map Dc.av), .sl .no (x.rules.map Rl.av)]
theorem RPg.cf {M : Hp} {c : List Value} {x : Pg} (h : RPg M c x) : CF M x.av.cells c ∧ ∀ u ∈ c, u.oneCell' = true := by
  refine ⟨?_, h.one⟩
  obtain ⟨a1, k1, a2, k2, rfl, q0, q1, q2, q3⟩ := h
  exact (.cons (q1.fv q0 (fun _ _ _ hc => RDc.cf hc)) (.cons (q3.fv q2 (fun _ _ _ hc => RRl.cf hc)) .nil))
theorem Pg.good {x : Pg} (h : x.av.good) : (x.decls.length ≤ 9223372036854775807 ∧ ∀ y ∈ x.decls, (Dc.av y).good) ∧ (x.rules.length ≤ 9223372036854775807 ∧ ∀ y ∈ x.rules, (Rl.av y).good) := ⟨good_sla (good_agg h (.sl .no (x.decls.map Dc.av)) (by simp)), good_sla (good_agg h (.sl .no (x.rules.map Rl.av)) (by simp))⟩
theorem RPg.fv {M : Hp} {c : List Value} {x : Pg} (h : RPg M c x) : FV M x.av (.agg c.toArray) := h.cf.1.agg h.cf.2

def Oc.av (x : Oc) : AV := .agg [.int .i64 x.rule, .int .i64 x.head, .bool x.kept]
theorem ROc.cf {M : Hp} {c : List Value} {x : Oc} (h : ROc M c x) : CF M x.av.cells c ∧ ∀ u ∈ c, u.oneCell' = true := by
  refine ⟨?_, h.one⟩
  obtain ⟨rfl, _, _⟩ := h
  exact (.cons (.int .i64 x.rule) (.cons (.int .i64 x.head) (.cons (.bool x.kept) .nil)))
theorem ROc.fv {M : Hp} {c : List Value} {x : Oc} (h : ROc M c x) : FV M x.av (.agg c.toArray) := h.cf.1.agg h.cf.2

def Bd.av (x : Bd) : AV := .agg [.int .i64 x.var, .int .i64 x.term.kind, .int .i64 x.term.num, .str x.term.name, .sl .no (x.term.args.map Tm.av)]
theorem RBd.cf {M : Hp} {c : List Value} {x : Bd} (h : RBd M c x) : CF M x.av.cells c ∧ ∀ u ∈ c, u.oneCell' = true := by
  refine ⟨?_, h.one⟩
  obtain ⟨c1, rfl, _, q1⟩ := h
  have w0 := Tm.av_w x.term
  have t := (CF.app (CF.cons (FV.int .i64 x.var) CF.nil) (RTm.cf q1).1)
  rw [w0] at t
  exact t
theorem RBd.fv {M : Hp} {c : List Value} {x : Bd} (h : RBd M c x) : FV M x.av (.agg c.toArray) := h.cf.1.agg h.cf.2

def It.av (x : It) : AV := .agg [.int .i64 x.id, .str x.atom.name, .sl .no (x.atom.args.map Tm.av)]
theorem RIt.cf {M : Hp} {c : List Value} {x : It} (h : RIt M c x) : CF M x.av.cells c ∧ ∀ u ∈ c, u.oneCell' = true := by
  refine ⟨?_, h.one⟩
  obtain ⟨c1, rfl, _, q1⟩ := h
  have t := (CF.app (CF.cons (FV.int .i64 x.id) CF.nil) (RAt.cf q1).1)
  exact t
theorem RIt.fv {M : Hp} {c : List Value} {x : It} (h : RIt M c x) : FV M x.av (.agg c.toArray) := h.cf.1.agg h.cf.2

def Ft.av (x : Ft) : AV := .agg [.int .i64 x.id, .str x.atom.name, .sl .no (x.atom.args.map Tm.av), .sl .no (x.just.map intA)]
theorem RFt.cf {M : Hp} {c : List Value} {x : Ft} (h : RFt M c x) : CF M x.av.cells c ∧ ∀ u ∈ c, u.oneCell' = true := by
  refine ⟨?_, h.one⟩
  obtain ⟨c1, a2, k2, rfl, _, q1, q2, q3⟩ := h
  have t := (CF.app (CF.app (CF.cons (FV.int .i64 x.id) CF.nil) (RAt.cf q1).1) (CF.cons (q3.fv q2 (fun _ _ _ hc => RInt.cf hc)) CF.nil))
  exact t
theorem Ft.good {x : Ft} (h : x.av.good) : x.just.length ≤ 9223372036854775807 := (good_sla (good_agg h (.sl .no (x.just.map intA)) (by simp))).1
theorem RFt.fv {M : Hp} {c : List Value} {x : Ft} (h : RFt M c x) : FV M x.av (.agg c.toArray) := h.cf.1.agg h.cf.2

def Fr.av (x : Fr) : AV := .agg [.int .i64 x.rule, .sl .no (x.ids.map intA)]
theorem RFr.cf {M : Hp} {c : List Value} {x : Fr} (h : RFr M c x) : CF M x.av.cells c ∧ ∀ u ∈ c, u.oneCell' = true := by
  refine ⟨?_, h.one⟩
  obtain ⟨a1, k1, rfl, _, q1, q2⟩ := h
  exact (.cons (.int .i64 x.rule) (.cons (q2.fv q1 (fun _ _ _ hc => RInt.cf hc)) .nil))
theorem Fr.good {x : Fr} (h : x.av.good) : x.ids.length ≤ 9223372036854775807 := (good_sla (good_agg h (.sl .no (x.ids.map intA)) (by simp))).1
theorem RFr.fv {M : Hp} {c : List Value} {x : Fr} (h : RFr M c x) : FV M x.av (.agg c.toArray) := h.cf.1.agg h.cf.2

def Fm.av (x : Fm) : AV := .agg [.int .i64 x.goal.op, .str x.goal.name, .sl .no (x.goal.args.map Tm.av), .int .i64 x.id, .int .i64 x.occ]
theorem RFm.cf {M : Hp} {c : List Value} {x : Fm} (h : RFm M c x) : CF M x.av.cells c ∧ ∀ u ∈ c, u.oneCell' = true := by
  refine ⟨?_, h.one⟩
  obtain ⟨c1, rfl, q0, _, _⟩ := h
  have t := (CF.app (RGl.cf q0).1 (CF.cons (FV.int .i64 x.id) (CF.cons (FV.int .i64 x.occ) CF.nil)))
  exact t
theorem RFm.fv {M : Hp} {c : List Value} {x : Fm} (h : RFm M c x) : FV M x.av (.agg c.toArray) := h.cf.1.agg h.cf.2

def Ev.av (x : Ev) : AV := .agg [.int .i64 x.kind, .int .i64 x.id, .int .i64 x.occ, .int .i64 x.rule, .sl .no (x.ids.map intA)]
theorem REv.cf {M : Hp} {c : List Value} {x : Ev} (h : REv M c x) : CF M x.av.cells c ∧ ∀ u ∈ c, u.oneCell' = true := by
  refine ⟨?_, h.one⟩
  obtain ⟨a1, k1, rfl, _, _, _, _, q4, q5⟩ := h
  exact (.cons (.int .i64 x.kind) (.cons (.int .i64 x.id) (.cons (.int .i64 x.occ) (.cons (.int .i64 x.rule) (.cons (q5.fv q4 (fun _ _ _ hc => RInt.cf hc)) .nil)))))
theorem Ev.good {x : Ev} (h : x.av.good) : x.ids.length ≤ 9223372036854775807 := (good_sla (good_agg h (.sl .no (x.ids.map intA)) (by simp))).1
theorem REv.fv {M : Hp} {c : List Value} {x : Ev} (h : REv M c x) : FV M x.av (.agg c.toArray) := h.cf.1.agg h.cf.2

def Pl.av (x : Pl) : AV := .agg [.int .i64 x.occ.rule, .int .i64 x.occ.head, .bool x.occ.kept, .sl .no (x.order.map intA), .sl .no (x.known.map (slA intA)), .sl .no (x.tests.map (slA intA))]
theorem RPl.cf {M : Hp} {c : List Value} {x : Pl} (h : RPl M c x) : CF M x.av.cells c ∧ ∀ u ∈ c, u.oneCell' = true := by
  refine ⟨?_, h.one⟩
  obtain ⟨c1, a2, k2, a3, k3, a4, k4, rfl, q0, q1, q2, q3, q4, q5, q6⟩ := h
  have t := (CF.app (ROc.cf q0).1 (CF.cons (q2.fv q1 (fun _ _ _ hc => RInt.cf hc)) (CF.cons (q4.fv q3 (fun _ _ _ hc => RSl.cf hc (fun _ _ _ hc => RInt.cf hc))) (CF.cons (q6.fv q5 (fun _ _ _ hc => RSl.cf hc (fun _ _ _ hc => RInt.cf hc))) CF.nil))))
  exact t
theorem Pl.good {x : Pl} (h : x.av.good) : x.order.length ≤ 9223372036854775807 ∧ (x.known.length ≤ 9223372036854775807 ∧ ∀ y ∈ x.known, (slA intA y).good) ∧ (x.tests.length ≤ 9223372036854775807 ∧ ∀ y ∈ x.tests, (slA intA y).good) := ⟨(good_sla (good_agg h (.sl .no (x.order.map intA)) (by simp))).1, good_sla (good_agg h (.sl .no (x.known.map (slA intA))) (by simp)), good_sla (good_agg h (.sl .no (x.tests.map (slA intA))) (by simp))⟩
theorem RPl.fv {M : Hp} {c : List Value} {x : Pl} (h : RPl M c x) : FV M x.av (.agg c.toArray) := h.cf.1.agg h.cf.2

def Ac.av (x : Ac) : AV := .agg [.str x.name, .int .i64 x.arity, .sl .no (x.positions.map intA)]
theorem RAc.cf {M : Hp} {c : List Value} {x : Ac} (h : RAc M c x) : CF M x.av.cells c ∧ ∀ u ∈ c, u.oneCell' = true := by
  refine ⟨?_, h.one⟩
  obtain ⟨a1, k1, rfl, q0, _, q2, q3⟩ := h
  exact (.cons (.str x.name q0) (.cons (.int .i64 x.arity) (.cons (q3.fv q2 (fun _ _ _ hc => RInt.cf hc)) .nil)))
theorem Ac.good {x : Ac} (h : x.av.good) : x.name.size ≤ 9223372036854775807 ∧ x.positions.length ≤ 9223372036854775807 := ⟨good_str (good_agg h (.str x.name) (by simp)), (good_sla (good_agg h (.sl .no (x.positions.map intA)) (by simp))).1⟩
theorem RAc.fv {M : Hp} {c : List Value} {x : Ac} (h : RAc M c x) : FV M x.av (.agg c.toArray) := h.cf.1.agg h.cf.2

def Ky.av (x : Ky) : AV := .agg [.str x.name, .int .i64 x.arity, .sl .no (x.positions.map intA)]
theorem RKy.cf {M : Hp} {c : List Value} {x : Ky} (h : RKy M c x) : CF M x.av.cells c ∧ ∀ u ∈ c, u.oneCell' = true := by
  refine ⟨?_, h.one⟩
  obtain ⟨a1, k1, rfl, q0, _, q2, q3⟩ := h
  exact (.cons (.str x.name q0) (.cons (.int .i64 x.arity) (.cons (q3.fv q2 (fun _ _ _ hc => RInt.cf hc)) .nil)))
theorem Ky.good {x : Ky} (h : x.av.good) : x.name.size ≤ 9223372036854775807 ∧ x.positions.length ≤ 9223372036854775807 := ⟨good_str (good_agg h (.str x.name) (by simp)), (good_sla (good_agg h (.sl .no (x.positions.map intA)) (by simp))).1⟩
theorem RKy.fv {M : Hp} {c : List Value} {x : Ky} (h : RKy M c x) : FV M x.av (.agg c.toArray) := h.cf.1.agg h.cf.2

def Ct.av (x : Ct) : AV := .agg [.sl .no (x.rules.map intA), .int .i64 x.tried, .int .i64 x.goals, .int .i64 x.steps]
theorem RCt.cf {M : Hp} {c : List Value} {x : Ct} (h : RCt M c x) : CF M x.av.cells c ∧ ∀ u ∈ c, u.oneCell' = true := by
  refine ⟨?_, h.one⟩
  obtain ⟨a1, k1, rfl, q0, q1, _, _, _⟩ := h
  exact (.cons (q1.fv q0 (fun _ _ _ hc => RInt.cf hc)) (.cons (.int .i64 x.tried) (.cons (.int .i64 x.goals) (.cons (.int .i64 x.steps) .nil))))
theorem Ct.good {x : Ct} (h : x.av.good) : x.rules.length ≤ 9223372036854775807 := (good_sla (good_agg h (.sl .no (x.rules.map intA)) (by simp))).1
theorem RCt.fv {M : Hp} {c : List Value} {x : Ct} (h : RCt M c x) : FV M x.av (.agg c.toArray) := h.cf.1.agg h.cf.2

end Go.CK
