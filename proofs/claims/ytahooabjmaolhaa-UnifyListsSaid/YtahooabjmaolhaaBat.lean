/-
  Texts of this claim joined (wip/gen/bundle.py), those declarations only that are needed: AmLy Cmp Lay. By an AI agent.
-/
import Derived.Test.YtahooabjmaolhaaBas
import Derived.Test.YtahooabjmaolhaaBaq
import Derived.Test.YtahooabjmaolhaaBar
import Derived.Test.YtahooabjmaolhaaBaa
import Derived.Ground.NamesProg
import Derived.Ground.GgzProg
import Derived.Ground.GgwProg
import Derived.Shelf.Sort.Plain
import Derived.Shelf.Slices.In.SortNone
import Derived.Shelf.SlIterI.Sorted
import Derived.Shelf.SlIterI.Collect
import Derived.Shelf.SlIterI.Keys
import Derived.Shelf.GgClosure.StringsIndexFuncTop
import Derived.Shelf.Strings.Search3
import Derived.Test.YtahooabjmaolhaaProg
set_option linter.unusedSimpArgs false
set_option linter.unusedVariables false
namespace Go.AM
open Go.CK Go.RowKit
def ixO : List (Option Nat) -> Nat -> Nat -> Option Nat
 | [], _, _ => none
 | none :: l, b, k => ixO l b (k + 1)
 | some i :: l, b, k => match Nat.beq i b with
  | true => some k
  | false => ixO l b (k + 1)
theorem ixO_some : ∀ {l : List (Option Nat)} {b k q : Nat}, ixO l b k = some q -> k ≤ q ∧ l[q - k]? = some (some b)
 | none :: l, b, k, q, h => by
  obtain ⟨h1, h2⟩ := ixO_some (l := l) (k := k + 1) h; refine ⟨by omega, ?_⟩
  rw [show q - k = (q - (k + 1)) + 1 by omega]
  simpa using h2
 | some i :: l, b, k, q, h => by
  simp only [ixO] at h; split at h
  ·rename_i hb; cases h; have := Nat.eq_of_beq_eq_true hb; subst this; simp
  ·obtain ⟨h1, h2⟩ := ixO_some h; refine ⟨by omega, ?_⟩
   rw [show q - k = (q - (k + 1)) + 1 by omega]
   simpa using h2
def inO (l : List (Option Nat)) (b : Nat) : Bool := match ixO l b 0 with
 | some _ => true
 | none => false
def rhoO (l : List (Option Nat)) (b : Nat) : Nat := match ixO l b 0 with
 | some k => k
 | none => 0
def cutO (f : Nat -> Nat) (bs : List Box) : List (Option Nat) -> List Box
 | [] => []
 | none :: l => .dead :: cutO f bs l
 | some i :: l => rnB f (boxAt bs i) :: cutO f bs l
theorem cutO_get (f : Nat -> Nat) (bs : List Box) : ∀ (l : List (Option Nat)) (k : Nat), (cutO f bs l)[k]? = (l[k]?).map fun o => match o with | some i => rnB f (boxAt bs i) | none => .dead
 | [], k => by simp [cutO]
 | none :: l, 0 => by simp [cutO]
 | some i :: l, 0 => by simp [cutO]
 | none :: l, k + 1 => by simp [cutO, cutO_get f bs l k]
 | some i :: l, k + 1 => by simp [cutO, cutO_get f bs l k]
theorem cutO_length (f : Nat -> Nat) (bs : List Box) : ∀ l : List (Option Nat), (cutO f bs l).length = l.length
 | [] => rfl
 | none :: l => by simp [cutO, cutO_length f bs l]
 | some i :: l => by simp [cutO, cutO_length f bs l]
def rnE (f : Nat -> Nat) : List (Nat × AV) -> List (Nat × AV)
 | [] => []
 | (t, x) :: e => (t, x.rn f) :: rnE f e
theorem rnE_get (f : Nat -> Nat) : ∀ (e : List (Nat × AV)) (t : Nat), envGet (rnE f e) t = (envGet e t).map (AV.rn f)
 | [], t => rfl
 | (k, x) :: e, t => by
  simp only [rnE, envGet]
  cases Nat.beq k t with
  | true => rfl
  | false => exact rnE_get f e t
def atE (p : Nat -> Bool) : List (Nat × AV) -> Bool
 | [] => true
 | (_, x) :: e => x.atp p && atE p e
theorem atE_get {p : Nat -> Bool} : ∀ {e : List (Nat × AV)} {t : Nat} {x : AV}, atE p e = true -> envGet e t = some x -> x.atp p = true
 | (k, y) :: e, t, x, h, hg => by
  simp only [atE, Bool.and_eq_true] at h; simp only [envGet] at hg; split at hg
  ·cases hg; exact h.1
  ·exact atE_get h.2 hg
 | [], _, _, _, hg => by cases hg
def onceO : List (Option Nat) -> Bool
 | [] => true
 | none :: l => onceO l
 | some i :: l => (match ixO l i 0 with | some _ => false | none => true) && onceO l
def lowO (n : Nat) : Nat -> List (Option Nat) -> Bool
 | _, [] => true
 | b, none :: l => lowO n (b + 1) l
 | b, some i :: l => (Nat.ble n b || Nat.beq i b) && lowO n (b + 1) l
def ltO (N : Nat) : List (Option Nat) -> Bool
 | [] => true
 | none :: l => ltO N l
 | some i :: l => Nat.blt i N && ltO N l
theorem ixO_none : ∀ {l : List (Option Nat)} {b k : Nat}, ixO l b k = none -> some b ∉ l
 | none :: l, b, k, h, hm => by
  rcases List.mem_cons.1 hm with hm | hm
  ·cases hm
  ·exact ixO_none (l := l) h hm
 | some i :: l, b, k, h, hm => by
  simp only [ixO] at h; split at h
  ·cases h
  ·rename_i hb; rcases List.mem_cons.1 hm with hm | hm
   ·cases hm; simp at hb
   ·exact ixO_none h hm
 | [], _, _, _, hm => by cases hm
theorem onceO_spec : ∀ {l : List (Option Nat)}, onceO l = true -> ∀ {k k' i : Nat}, l[k]? = some (some i) -> l[k']? = some (some i) -> k = k'
 | none :: l, h, 0, k', i, h1, h2 => by simp at h1
 | none :: l, h, k + 1, 0, i, h1, h2 => by simp at h2
 | none :: l, h, k + 1, k' + 1, i, h1, h2 => by
  have := onceO_spec (l := l) h (k := k) (k' := k') (i := i) (by simpa using h1) (by simpa using h2)
  rw [this]
 | some j :: l, h, k, k', i, h1, h2 => by
  simp only [onceO, Bool.and_eq_true] at h
  have hno : some j ∉ l := by
   have := h.1; split at this
   ·cases this
   ·rename_i hn; exact ixO_none hn
  cases k with
  | zero =>
   simp at h1; subst h1
   cases k' with
   | zero => rfl
   | succ k' => exact absurd (List.mem_of_getElem? (by simpa using h2)) hno
  | succ k =>
   cases k' with
   | zero => simp at h2; subst h2; exact absurd (List.mem_of_getElem? (by simpa using h1)) hno
   | succ k' =>
    have := onceO_spec h.2 (k := k) (k' := k') (i := i) (by simpa using h1) (by simpa using h2)
    rw [this]
 | [], _, k, k', i, h1, _ => by simp at h1
theorem lowO_spec {n : Nat} : ∀ {l : List (Option Nat)} {c k i : Nat}, lowO n c l = true -> l[k]? = some (some i) -> c + k < n -> i = c + k
 | none :: l, c, 0, i, h, h1, hlt => by simp at h1
 | none :: l, c, k + 1, i, h, h1, hlt => by
  have := lowO_spec (l := l) (c := c + 1) (k := k) (i := i) h (by simpa using h1) (by omega)
  omega
 | some j :: l, c, k, i, h, h1, hlt => by
  simp only [lowO, Bool.and_eq_true, Bool.or_eq_true] at h
  cases k with
  | zero =>
   simp at h1; subst h1; rcases h.1 with h | h
   ·have := Nat.le_of_ble_eq_true h; omega
   ·exact Nat.eq_of_beq_eq_true h
  | succ k =>
   have := lowO_spec (c := c + 1) (k := k) (i := i) h.2 (by simpa using h1) (by omega)
   omega
 | [], c, k, i, _, h1, _ => by simp at h1
theorem ltO_spec {N : Nat} : ∀ {l : List (Option Nat)} {k i : Nat}, ltO N l = true -> l[k]? = some (some i) -> i < N
 | none :: l, 0, i, h, h1 => by simp at h1
 | none :: l, k + 1, i, h, h1 => ltO_spec (l := l) (k := k) h (by simpa using h1)
 | some j :: l, k, i, h, h1 => by
  simp only [ltO, Bool.and_eq_true] at h
  cases k with
  | zero => simp at h1; subst h1; simpa [Nat.blt_eq] using h.1
  | succ k => exact ltO_spec h.2 (by simpa using h1)
 | [], k, i, _, h1 => by simp at h1
def okO (p : Nat -> Bool) (bs : List Box) : List (Option Nat) -> Bool
 | [] => true
 | none :: l => okO p bs l
 | some i :: l => atB p (boxAt bs i) && okO p bs l
theorem okO_spec {p : Nat -> Bool} {bs : List Box} : ∀ {l : List (Option Nat)} {k i : Nat}, okO p bs l = true -> l[k]? = some (some i) -> atB p (boxAt bs i) = true
 | none :: l, 0, i, h, h1 => by simp at h1
 | none :: l, k + 1, i, h, h1 => okO_spec (l := l) (k := k) h (by simpa using h1)
 | some j :: l, k, i, h, h1 => by
  simp only [okO, Bool.and_eq_true] at h
  cases k with
  | zero => simp at h1; subst h1; exact h.1
  | succ k => exact okO_spec h.2 (by simpa using h1)
 | [], k, i, _, h1 => by simp at h1
theorem Weak.lay (s : St) (is : List (Option Nat)) (h1 : onceO is = true) (h2 : lowO s.lo 0 is = true) (h3 : ltO s.bs.length is = true) (h4 : Nat.ble s.lo is.length = true) (he : atE (inO is) s.env = true) (hb : okO (inO is) s.bs is = true) :
  Weak s ⟨rnE (rhoO is) s.env, cutO (rhoO is) s.bs is, s.lo⟩ := fun E G a w hs => by
 obtain ⟨env, bs, lo⟩ := s; simp only at h2 h3 h4 he hb ⊢; have h4 := Nat.le_of_ble_eq_true h4; have hlo : lo = E.nb := hs.lo; have hcl : (cutO (rhoO is) bs is).length = is.length := cutO_length _ _ _
 have hcb : ∀ {k : Nat} {y : Box}, (cutO (rhoO is) bs is)[k]? = some y -> (is[k]? = some none ∧ y = .dead) ∨ ∃ i x, is[k]? = some (some i) ∧ bs[i]? = some x ∧ y = rnB (rhoO is) x ∧ atB (inO is) x = true := fun {k y} hy => by
  rw [cutO_get] at hy
  cases hk : is[k]? with
  | none => rw [hk] at hy; cases hy
  | some o =>
   rw [hk] at hy
   cases o with
   | none => simp at hy; exact .inl ⟨rfl, hy.symm⟩
   | some i =>
    have hlt := ltO_spec h3 hk; have hx : bs[i]? = some bs[i] := List.getElem?_eq_getElem hlt; have hat := okO_spec hb hk; rw [boxAt_eq hx] at hat; simp only [Option.map_some, Option.some.injEq, boxAt_eq hx] at hy; exact .inr ⟨i, _, rfl, hx, hy.symm, hat⟩
 obtain ⟨G2, hG2⟩ : ∃ G2 : Gh, G2 = ⟨G.M, fun b => match is[b]? with | some (some i) => G.σ i | _ => G.σ b, fun p => match p with | .sl t => G.cl (.sl t) | .bx b j => match is[b]? with | some (some i) => G.cl (.bx i j) | _ => none⟩ := ⟨_, rfl⟩; have hM : G2.M = G.M := by rw [hG2]
 have hσ : ∀ {k i : Nat}, is[k]? = some (some i) -> G2.σ k = G.σ i := fun {k i} hk => by rw [hG2]; simp only [hk]
 have hclS : ∀ t, G2.cl (.sl t) = G.cl (.sl t) := fun t => by rw [hG2]
 have hclB : ∀ {k i : Nat} (j : Nat), is[k]? = some (some i) -> G2.cl (.bx k j) = G.cl (.bx i j) := fun {k i} j hk => by rw [hG2]; simp only [hk]
 have hcl2 : ∀ {p : Pl} {B : Nat}, G2.cl p = some B -> (∃ t, p = .sl t ∧ G.cl (.sl t) = some B) ∨ ∃ k i j, p = .bx k j ∧ is[k]? = some (some i) ∧ G.cl (.bx i j) = some B := fun {p B} hp => by
  cases p with
  | sl t => exact .inl ⟨t, rfl, by rw [← hclS]; exact hp⟩
  | bx k j =>
   rw [hG2] at hp; simp only at hp; split at hp
   ·rename_i i hk; exact .inr ⟨k, i, j, rfl, hk, hp⟩
   ·cases hp
 have hcells : ∀ {k : Nat} {cs : List AV}, boxCells (cutO (rhoO is) bs is) k = some cs -> ∃ i ds, is[k]? = some (some i) ∧ boxCells bs i = some ds ∧ cs = ds.map (AV.rn (rhoO is)) ∧ ∀ c ∈ ds, c.atp (inO is) = true := fun {k cs} hc => by
  unfold boxCells at hc; split at hc
  ·rename_i y hy; rcases hcb hy with ⟨_, rfl⟩ | ⟨i, x, q1, q2, rfl, q4⟩
   ·cases hc
   ·rw [rnB_cs _ q4] at hc
    cases hx : x.cs? with
    | none => rw [hx] at hc; cases hc
    | some ds =>
     rw [hx] at hc; simp only [Option.map_some, Option.some.injEq] at hc; exact ⟨i, ds, q1, by simp only [boxCells, q2, hx], hc.symm, atB_cells q4 hx⟩
  ·cases hc
 have hloops : ∀ {k : Nat} {x : LB}, boxLoop (cutO (rhoO is) bs is) k = some x -> ∃ i, is[k]? = some (some i) ∧ boxLoop bs i = some x ∧ x.n = 0 ∧ ∀ M : Hp, x.M.le M := fun {k x} hc => by
  unfold boxLoop at hc; split at hc
  ·rename_i y hy; rcases hcb hy with ⟨_, rfl⟩ | ⟨i, z, q1, q2, rfl, q4⟩
   ·cases hc
   ·rw [rnB_lb] at hc; exact ⟨i, q1, by simp only [boxLoop, q2, hc], atB_lb q4 hc⟩
  ·cases hc
 have hone := fun {k k' i : Nat} => onceO_spec h1 (k := k) (k' := k') (i := i)
 have toR : ∀ {x : AV} {v : Value}, RV G.M G.σ bs.length x v -> x.atp (inO is) = true -> RV G2.M G2.σ (cutO (rhoO is) bs is).length (x.rn (rhoO is)) v := fun {x v} hx hp => by
  rw [hM]; refine hx.rn (fun b hb _ => ?_) hp; unfold inO at hb
  cases hq : ixO is b 0 with
  | none => rw [hq] at hb; cases hb
  | some k =>
   obtain ⟨_, q1⟩ := ixO_some hq; rw [Nat.sub_zero] at q1; have hr : rhoO is b = k := by unfold rhoO; rw [hq]
   rw [hr, hσ q1, hcl]; exact ⟨rfl, (List.getElem?_eq_some_iff.1 q1).1⟩
 have hat : ∀ {p : Pl} {x : AV}, (⟨rnE (rhoO is) env, cutO (rhoO is) bs is, lo⟩ : St).at p = some x -> (∃ t y, p = .sl t ∧ (⟨env, bs, lo⟩ : St).at (.sl t) = some y ∧ x = y.rn (rhoO is) ∧ y.atp (inO is) = true) ∨ (∃ k i j y, p = .bx k j ∧ is[k]? = some (some i) ∧ (⟨env, bs, lo⟩ : St).at (.bx i j) = some y ∧ x = y.rn (rhoO is) ∧ y.atp (inO is) = true) := fun {p x} hp => by
  cases p with
  | sl t =>
   simp only [St.at, rnE_get] at hp
   cases hq : envGet env t with
   | none => rw [hq] at hp; cases hp
   | some y =>
    rw [hq] at hp; simp only [Option.map_some, Option.some.injEq] at hp
    exact .inl ⟨t, y, rfl, hq, hp.symm, atE_get he hq⟩
  | bx k j =>
   simp only [St.at] at hp
   cases hbk : boxCells (cutO (rhoO is) bs is) k with
   | none => rw [hbk] at hp; cases hp
   | some cs =>
    obtain ⟨i, ds, q1, q2, q3, q4⟩ := hcells hbk; rw [hbk, q3] at hp; simp only [Option.bind_some, List.getElem?_map] at hp
    cases hj : ds[j]? with
    | none => rw [hj] at hp; cases hp
    | some y =>
     rw [hj] at hp; simp only [Option.map_some, Option.some.injEq] at hp; exact .inr ⟨k, i, j, y, rfl, q1, by simp only [St.at, q2, Option.bind_some, hj], hp.symm, q4 y (List.mem_of_getElem? hj)⟩
 have hval : ∀ {k i : Nat} (j : Nat), is[k]? = some (some i) -> valAt G2.σ a w (.bx k j) = valAt G.σ a w (.bx i j) := fun {k i} j hk => by simp only [valAt, hσ hk]
 refine ⟨G2, by rw [hM]; exact hs.fr, by rw [hM]; exact hs.ok, hs.nt, fun p x hp => ?_, fun k j x hp => ?_, fun k cs hk => ?_, fun k cs hk => ?_, fun k k' cs cs' hk hk' e => ?_, fun p z l hp => ?_, fun p q B hp hq => ?_, fun p B hp k cs hk => ?_, fun p B hp => ?_, hs.lo, by show E.nb ≤ _; rw [hcl]; omega, fun b hb => ?_, ?_⟩
 ·rcases hat hp with ⟨t, y, rfl, q1, rfl, q2⟩ | ⟨k, i, j, y, rfl, q0, q1, rfl, q2⟩
  ·show RV G2.M G2.σ _ _ (valAt G2.σ a w (.sl t)); rw [rn_deown]; exact toR (hs.val _ _ q1) (by rw [atp_deown]; exact q2)
  ·show RV G2.M G2.σ _ _ (valAt G2.σ a w (.bx k j)); rw [rn_deown, hval j q0]; exact toR (hs.val _ _ q1) (by rw [atp_deown]; exact q2)
 ·rcases hat hp with ⟨t, y, e, _⟩ | ⟨k', i, j', y, e, q0, q1, rfl, q2⟩
  ·cases e
  ·cases e; rw [hval _ q0]; exact hs.one _ _ _ q1
 ·obtain ⟨i, ds, q1, q2, rfl, _⟩ := hcells hk; rw [hσ q1, List.length_map]; exact hs.box i ds q2
 ·obtain ⟨i, ds, q1, q2, rfl, _⟩ := hcells hk; rw [hσ q1, hM]; exact hs.bmem i ds q2
 ·obtain ⟨i, ds, q1, q2, _, _⟩ := hcells hk; obtain ⟨i', ds', q1', q2', _, _⟩ := hcells hk'; rw [hσ q1, hσ q1'] at e; have := hs.inj i i' ds ds' q2 q2' e; subst this; exact hone q1 q1'
 ·rcases hat hp with ⟨t, y, rfl, q1, e, q2⟩ | ⟨k, i, j, y, rfl, q0, q1, e, q2⟩
  ·have hy := rn_own e.symm; subst hy; obtain ⟨ad, kk, r1, r2, r3⟩ := hs.own _ _ _ q1; refine ⟨ad, kk, r1, r2, ?_⟩; rcases r3 with r3 | ⟨B, hB, r4, r5⟩
   ·exact .inl r3
   ·exact .inr ⟨B, by rw [hclS]; exact hB, r4, r5.lt, r5.cells, by rw [hM]; exact r5.free, r5.mine⟩
  ·have hy := rn_own e.symm; subst hy; obtain ⟨ad, kk, r1, r2, r3⟩ := hs.own _ _ _ q1; refine ⟨ad, kk, by rw [hval j q0]; exact r1, r2, ?_⟩
   rcases r3 with r3 | ⟨B, hB, r4, r5⟩
   ·exact .inl r3
   ·exact .inr ⟨B, by rw [hclB j q0]; exact hB, r4, r5.lt, r5.cells, by rw [hM]; exact r5.free, r5.mine⟩
 ·rcases hcl2 hp with ⟨t, rfl, q1⟩ | ⟨k, i, j, rfl, q0, q1⟩ <;> rcases hcl2 hq with ⟨t', rfl, q1'⟩ | ⟨k', i', j', rfl, q0', q1'⟩
  ·exact hs.clinj _ _ B q1 q1'
  ·have := hs.clinj _ _ B q1 q1'; cases this
  ·have := hs.clinj _ _ B q1 q1'; cases this
  ·have := hs.clinj _ _ B q1 q1'; cases this; have := hone q0 q0'; subst this; rfl
 ·obtain ⟨i, ds, q1, q2, _, _⟩ := hcells hk; rw [hσ q1]; rcases hcl2 hp with ⟨t, rfl, q⟩ | ⟨k', i', j, rfl, q0, q⟩
  ·exact hs.clbox _ B q i ds q2
  ·exact hs.clbox _ B q i ds q2
 ·rcases hcl2 hp with ⟨t, rfl, q⟩ | ⟨k', i', j, rfl, q0, q⟩
  ·exact hs.cllt _ B q
  ·exact hs.cllt _ B q
 ·have hlt : b < is.length := by omega
  have hsg := hs.sig b hb; rw [hG2]; simp only
  cases hk : is[b]? with
  | none => exact hsg
  | some o =>
   cases o with
   | none => exact hsg
   | some i =>
    have := lowO_spec h2 hk (by omega)
    rw [Nat.zero_add] at this; subst this; exact hsg
 ·refine ⟨fun B o hsp => ?_, fun k x hk => ?_, fun k k' x x' hk hk' e => ?_, hs.sp.ds⟩
  ·rcases hsp with ⟨k, x, hk, e, ho⟩ | hm
   ·obtain ⟨i, q1, q2, _, _⟩ := hloops hk; rw [hσ q1] at e; obtain ⟨r1, r2, r3⟩ := hs.sp.ob B o (.inl ⟨i, x, q2, e, ho⟩); refine ⟨r1, fun p hp => ?_, r3⟩; rcases hcl2 hp with ⟨t, rfl, q⟩ | ⟨k', i', j, rfl, q0, q⟩ <;> exact r2 _ q
   ·obtain ⟨r1, r2, r3⟩ := hs.sp.ob B o (.inr hm); refine ⟨r1, fun p hp => ?_, r3⟩; rcases hcl2 hp with ⟨t, rfl, q⟩ | ⟨k', i', j, rfl, q0, q⟩ <;> exact r2 _ q
  ·obtain ⟨i, q1, q2, q3, q4⟩ := hloops hk; exact ⟨q4 _, by omega, fun c hc => by omega⟩
  ·obtain ⟨i, q1, q2, _, _⟩ := hloops hk; obtain ⟨i', q1', q2', _, _⟩ := hloops hk'; rw [hσ q1, hσ q1'] at e; have := hs.sp.inj i i' x x' q2 q2' e; subst this; exact hone q1 q1'
theorem okO_cons {p : Nat -> Bool} {bs : List Box} {i : Nat} {l : List (Option Nat)} (h : atB p (boxAt bs i) = true) (k : okO p bs l = true) : okO p bs (some i :: l) = true := by simp only [okO, h, k, Bool.and_self]
theorem atB_row {α : Type} {f : α -> AV} {z : Nat} (hp : Plain f z) {p : Nat -> Bool} (k : Nat) (l : List α) : atB p (rowF f z k l) = true := by
 simp only [rowF, atB, List.all_eq_true]; intro c hc; rcases List.mem_append.1 hc with hc | hc
 ·exact (hp.mem hc).2
 ·rw [(List.mem_replicate.1 hc).2]; rfl
theorem allB_cons {p : Nat -> Bool} {x : Box} {l : List Box} (h : atB p x = true) (k : allB p l = true) : allB p (x :: l) = true := by simp only [allB, h, k, Bool.and_self]
theorem EndN.lay {s t : St} (is : List (Option Nat)) (hb : okO (inO is) s.bs is = true) (h : (⟨rnE (rhoO is) s.env, cutO (rhoO is) s.bs is, s.lo⟩ : St).fo true fun s' => EndN s' t) (h1 : onceO is = true := by rfl) (h2 : lowO s.lo 0 is = true := by rfl) (h3 : ltO s.bs.length is = true := by rfl) (h4 : Nat.ble s.lo is.length = true := by rfl) (he : atE (inO is) s.env = true := by rfl) : EndN s t := by
 rw [St.fo_eq] at h; exact ⟨(Weak.lay s is h1 h2 h3 h4 he hb).trans h.out⟩
theorem RetP.lay {s : St} {rs : List RRes} {Q : AV -> List Box -> Prop} (is : List (Option Nat)) (hb : okO (inO is) s.bs is = true) (h : (⟨rnE (rhoO is) s.env, cutO (rhoO is) s.bs is, s.lo⟩ : St).fo true fun s' => RetP s' rs Q) (h1 : onceO is = true := by rfl) (h2 : lowO s.lo 0 is = true := by rfl) (h3 : ltO s.bs.length is = true := by rfl) (h4 : Nat.ble s.lo is.length = true := by rfl) (he : atE (inO is) s.env = true := by rfl) : RetP s rs Q := by
 rw [St.fo_eq] at h; obtain ⟨s', q1, q2⟩ := h.out; exact ⟨s', (Weak.lay s is h1 h2 h3 h4 he hb).trans q1, q2⟩
theorem RetP.wk {s s' : St} {rs : List RRes} {Q : AV -> List Box -> Prop} (hw : Weak s s') (h : RetP s' rs Q) : RetP s rs Q := by
 obtain ⟨s2, q1, q2⟩ := h.out; exact ⟨s2, hw.trans q1, q2⟩
theorem CallN.at {P : Program} {f : FuncId} {vals raw vals0 : List AV} {bs bs0 : List Box} {Q : AV -> List Box -> Prop} {K : AV -> List Box -> Prop} (is : List Nat) (h : Sem P f vals0 bs0 Q) (hv0 : raw.map (AV.rn (rho is)) = vals0) (hb0 : cut is bs is = bs0)
  (hQ : ∀ r bs', Q r bs' -> Nat.ble is.length bs'.length = true ∧ r.atp (fun b => decide (b < bs'.length)) = true ∧ allB (fun b => decide (b < bs'.length)) bs' = true)
  (hb : okO (inIx is) bs (is.map some) = true) (hK : ∀ r bs', Q r bs' -> K (r.rn (pie is bs.length)) (back is bs bs'))
  (hnd : onceO (is.map some) = true := by rfl) (hin : ltO bs.length (is.map some) = true := by rfl) (hv : raw.all (AV.atp (inIx is)) = true := by rfl) : CallN P f vals raw bs K := by
 subst hv0 hb0; have hget : ∀ {k i : Nat}, is[k]? = some i -> (is.map some)[k]? = some (some i) := fun {k i} h => by rw [List.getElem?_map, h]; rfl
 refine .raw (Sem.ren is ?_ (fun i hi => ?_) (by simpa using hv) (fun i hi => ?_) (h.mono fun r bs' hq => ⟨?_, hq⟩)) ?_
 ·refine List.pairwise_iff_getElem.2 fun i j hi hj hij e => ?_; have := onceO_spec hnd (hget (List.getElem?_eq_getElem hi)) (hget (k := j) (i := is[i]) (by rw [List.getElem?_eq_getElem hj, e]))
  omega
 ·obtain ⟨k, hk⟩ := List.getElem?_of_mem hi; exact ltO_spec hin (hget hk)
 ·obtain ⟨k, hk⟩ := List.getElem?_of_mem hi; exact okO_spec hb (hget hk)
 ·obtain ⟨q1, q2, q3⟩ := hQ r bs' hq; exact ⟨Nat.le_of_ble_eq_true q1, q2, q3⟩
 ·rintro r bs' ⟨r0, bs2, hq, rfl, rfl⟩; exact hK r0 bs2 hq
section
variable {α : Type} {f : α -> AV} {z : Nat}
theorem rowF_cells (hp : Plain f z) {bs : List Box} {b k i : Nat} {l : List α} {x : α} (hb : bs[b]? = some (rowF f z k l)) (hx : l[i]? = some x) : boxCells bs b = some (cellsOf (l.map f) ++ List.replicate ((k - l.length) * z) AV.top) := by
 refine rowAt_cells (rowAt_row hb) fun e => ?_; have := congrArg List.length e; rw [List.length_append, hp.len, List.length_nil] at this; have hi := (List.getElem?_eq_some_iff.1 hx).1; have := hp.pos; have h2 : 0 < l.length * z := Nat.mul_pos (by omega) hp.pos
 omega
theorem rowF_get (hp : Plain f z) {k i off : Nat} {l : List α} {x : α} (hx : l[i]? = some x) (ho : off < z) : (cellsOf (l.map f) ++ List.replicate ((k - l.length) * z) AV.top)[i * z + off]? = (f x).cells[off]? := by
 obtain ⟨hi, rfl⟩ := List.getElem?_eq_some_iff.1 hx
 have hlt : i * z + off < (cellsOf (l.map f)).length := by
  rw [hp.len]; have : (i + 1) * z ≤ l.length * z := Nat.mul_le_mul_right _ hi; rw [Nat.add_mul, Nat.one_mul] at this; omega
 rw [List.getElem?_append_left hlt, cellsOf_get (z := z) (fun y hy => by obtain ⟨x, _, rfl⟩ := List.mem_map.1 hy; exact hp.sz x) i (by simpa using hi) off ho]
 simp
theorem ElN.cell (hp : Plain f z) {e : List (Nat × AV)} {bs : List Box} {lo b k i off : Nat} {l : List α} {x : α} {c : AV} {K : AV -> Prop} (hb : bs[b]? = some (rowF f z k l)) (hx : l[i]? = some x) (hc : (f x).cells[off]? = some c) (h : K c) : ElN false 1 ⟨e, bs, lo⟩ (.elp b i z off) K := by
 refine ⟨?_⟩; have ho : off < z := by rw [← hp.sz x]; exact (List.getElem?_eq_some_iff.1 hc).1
 have hg := (rowF_get (k := k) hp hx ho).trans hc; obtain ⟨hlt, he⟩ := List.getElem?_eq_some_iff.1 hg; simp only [St.rd, rowF_cells hp hb hx]; rw [List.drop_eq_getElem_cons hlt, he]; simp only [List.map_cons, loadK, hp.de x c (List.mem_of_getElem? hc)]; cases c <;> first | exact h | skip
theorem ElN.elem (hp : Plain f z) {e : List (Nat × AV)} {bs : List Box} {lo b k i : Nat} {l : List α} {x : α} {K : AV -> Prop} (hb : bs[b]? = some (rowF f z k l)) (hx : l[i]? = some x) (h : K (.agg (f x).cells)) : ElN true z ⟨e, bs, lo⟩ (.elp b i z 0) K := by
 refine ⟨?_⟩; simp only [St.rd, rowF_cells hp hb hx, Nat.add_zero]; have hi := (List.getElem?_eq_some_iff.1 hx).1
 have hlen : i * z + z ≤ (cellsOf (l.map f) ++ List.replicate ((k - l.length) * z) AV.top).length := by
  rw [List.length_append, hp.len]; have : (i + 1) * z ≤ l.length * z := Nat.mul_le_mul_right _ hi; rw [Nat.add_mul, Nat.one_mul] at this; omega
 simp only [loadK]; refine req_iff.2 ⟨by rw [Nat.ble_eq]; simp only [List.length_map, List.length_drop]; omega, ?_⟩
 have e2 : (((cellsOf (l.map f) ++ List.replicate ((k - l.length) * z) AV.top).drop (i * z)).map AV.deown).take z = (f x).cells := by
  apply List.ext_getElem?; intro j
  by_cases hj : j < z
  ·rw [List.getElem?_take_of_lt hj, List.getElem?_map, List.getElem?_drop, rowF_get hp hx hj]
   cases hc : (f x).cells[j]? with
   | none => rfl
   | some c => simp only [Option.map_some]; rw [hp.de x c (List.mem_of_getElem? hc)]
  ·rw [List.getElem?_eq_none (by simp; omega), List.getElem?_eq_none (by rw [hp.sz]; omega)]
 rw [e2]; exact h
theorem EsN.elem (hp : Plain f z) (hk : ∀ x, cellOk (f x) = true) {e : List (Nat × AV)} {bs : List Box} {lo b k i : Nat} {l : List α} {x y : α} {v : AV} {K : St -> Prop} (hb : bs[b]? = some (rowF f z k l)) (hx : l[i]? = some x) (hv : v = f y) (h : K ⟨e, bs.set b (rowF f z k (l.set i y)), lo⟩) : EsN z ⟨e, bs, lo⟩ b i z 0 v K := by
 subst hv; refine ⟨?_⟩; simp only [storeEK, rowF_cells hp hb hx, Nat.add_zero]; have hi := (List.getElem?_eq_some_iff.1 hx).1; have hmul : (i + 1) * z ≤ l.length * z := Nat.mul_le_mul_right _ hi; rw [Nat.add_mul, Nat.one_mul] at hmul; refine ⟨⟨hk y, hp.sz y, hp.pos, by rw [List.length_append, hp.len]; omega⟩, ?_⟩
 have he : setAt (cellsOf (l.map f) ++ List.replicate ((k - l.length) * z) AV.top) (i * z) (f y).cells = cellsOf ((l.set i y).map f) ++ List.replicate ((k - (l.set i y).length) * z) AV.top := by
  apply List.ext_getElem?; intro j; rw [setAt_get]; have hl1 : (cellsOf (l.map f) ++ List.replicate ((k - l.length) * z) AV.top).length = l.length * z + (k - l.length) * z := by rw [List.length_append, hp.len, List.length_replicate]
  have hl2 : (cellsOf ((l.set i y).map f)).length = l.length * z := by rw [hp.len, List.length_set]
  have hl3 : (cellsOf (l.map f)).length = l.length * z := hp.len l; have hset : (l.set i y)[i]? = some y := by simp [hi]
  by_cases hj : j < l.length * z
  ·have hq : j / z < l.length := (Nat.div_lt_iff_lt_mul hp.pos).2 hj; have hr : j % z < z := Nat.mod_lt _ hp.pos; have hjj : j / z * z + j % z = j := by have := Nat.div_add_mod j z; rw [Nat.mul_comm] at this; exact this
   by_cases hij : j / z = i
   ·have hc1 : i * z ≤ j ∧ j < i * z + (f y).cells.length ∧ j < (cellsOf (l.map f) ++ List.replicate ((k - l.length) * z) AV.top).length := by
     rw [hp.sz, hl1]; rw [hij] at hjj; omega
    rw [if_pos hc1]; have := rowF_get (k := k) (off := j % z) hp hset hr; rw [← hij, hjj] at this; rw [hij] at this; rw [this]; congr 1; rw [hij] at hjj; omega
   ·have hc1 : ¬ (i * z ≤ j ∧ j < i * z + (f y).cells.length ∧ j < (cellsOf (l.map f) ++ List.replicate ((k - l.length) * z) AV.top).length) := by
     rintro ⟨q1, q2, _⟩; rw [hp.sz] at q2; apply hij; refine Nat.div_eq_of_lt_le q1 ?_; rw [Nat.add_mul, Nat.one_mul]; exact q2
    rw [if_neg hc1]; have hx2 : l[j / z]? = some l[j / z] := List.getElem?_eq_getElem hq; have hx3 : (l.set i y)[j / z]? = some l[j / z] := by rw [List.getElem?_set_ne (fun e => hij e.symm)]; exact hx2
    have q1 := rowF_get (k := k) hp hx2 hr; have q2 := rowF_get (k := k) hp hx3 hr; rw [hjj] at q1 q2; rw [q1, q2]
  ·have hc1 : ¬ (i * z ≤ j ∧ j < i * z + (f y).cells.length ∧ j < (cellsOf (l.map f) ++ List.replicate ((k - l.length) * z) AV.top).length) := by
    rintro ⟨q1, q2, _⟩; rw [hp.sz] at q2; omega
   rw [if_neg hc1, List.getElem?_append_right (by omega), List.getElem?_append_right (by omega), hl2, hl3, List.length_set]
 rw [he]; exact h
theorem BsrN.one (hp : Plain f z) (hk : ∀ x, cellOk (f x) = true ∧ (f x).flat = true) {e : List (Nat × AV)} {bs : List Box} {lo : Nat} {x : α} {v : AV} {K : AV -> St -> Prop} (hv : v = f x) (h : K (.bsl bs.length 1 1) ⟨e, bs ++ [rowF f z 1 [x]], lo⟩) : BsrN z [v] ⟨e, bs, lo⟩ K := by
 subst hv; refine ⟨⟨hp.pos, fun v hv => ?_⟩, ?_⟩
 ·rw [List.mem_singleton] at hv; subst hv; exact ⟨hk x, hp.sz x⟩
 ·simpa [rowF] using h
end
theorem row_de {α : Type} {f : α -> AV} {z : Nat} (hp : Plain f z) {l : List α} {q j : Nat} {hj : j < (cellsOf (l.map f) ++ List.replicate q AV.top).length} : ((cellsOf (l.map f) ++ List.replicate q AV.top)[j]).deown = (cellsOf (l.map f) ++ List.replicate q AV.top)[j] := by
 rcases List.mem_append.1 (List.getElem_mem hj) with h | h
 ·exact (hp.mem h).1
 ·rw [(List.mem_replicate.1 h).2]; rfl
theorem cellsOf_app : ∀ (a b : List AV), cellsOf (a ++ b) = cellsOf a ++ cellsOf b
 | [], b => rfl
 | x :: a, b => by simp only [List.cons_append, cellsOf, cellsOf_app a b, List.append_assoc]
theorem Weak.rowCut {α : Type} {f : α -> AV} {z : Nat} (hp : Plain f z) (s : St) (b n : Nat) {k : Nat} {l : List α} (hb : s.bs[b]? = some (rowF f z k l)) (hn : n ≤ l.length) (hk : 0 < k) : Weak s ⟨s.env, s.bs.set b (rowF f z k (l.take n)), s.lo⟩ := fun E G a w hs => by
 have hz := hp.pos; have hl1 : (cellsOf (l.map f)).length = l.length * z := hp.len l; have hl2 : (cellsOf ((l.take n).map f)).length = n * z := by rw [hp.len, List.length_take, Nat.min_eq_left hn]
 have hne : cellsOf (l.map f) ++ List.replicate ((k - l.length) * z) .top ≠ [] := fun e => by
  have := congrArg List.length e; rw [List.length_append, hl1, List.length_replicate, ← Nat.add_mul, List.length_nil] at this; have h2 : 0 < (l.length + (k - l.length)) * z := Nat.mul_pos (by omega) hz
  omega
 have hbc : boxCells s.bs b = some (cellsOf (l.map f) ++ List.replicate ((k - l.length) * z) .top) := rowAt_cells (rowAt_row hb) hne; obtain ⟨vs, T, hc, hvl⟩ := hs.box b _ hbc; have hlen' : (n + (k - n)) * z ≤ (l.length + (k - l.length)) * z := Nat.mul_le_mul_right _ (by omega)
 rw [Nat.add_mul, Nat.add_mul] at hlen'; have hlt : (l.take n).length = n := by rw [List.length_take, Nat.min_eq_left hn]
 refine ⟨G, hs.reCells (w' := w) (vs' := vs) (T := T) hbc hc ?_ ?_ rfl rfl rfl (Nat.le_refl _) (fun _ _ _ => rfl) fun j hj v hv => ?_⟩
 ·rw [List.length_append, hl2, List.length_replicate, hlt]; rw [List.length_append, hl1, List.length_replicate] at hvl; omega
 ·intro e; have := congrArg List.length e; rw [List.length_append, hl2, List.length_replicate, hlt, ← Nat.add_mul, List.length_nil] at this; have h2 : 0 < (n + (k - n)) * z := Nat.mul_pos (by omega) hz
  omega
 ·rw [List.length_append, hl2, List.length_replicate, hlt] at hj; have hj2 : j < (cellsOf (l.map f) ++ List.replicate ((k - l.length) * z) AV.top).length := by rw [List.length_append, hl1, List.length_replicate]; omega
  have hat : s.at (.bx b j) = some ((cellsOf (l.map f) ++ List.replicate ((k - l.length) * z) AV.top)[j]) := by
   simp only [St.at, hbc, Option.bind_some]; exact List.getElem?_eq_getElem hj2
  have hvv : valAt G.σ a w (.bx b j) = v := by
   have hjs : j < vs.size := by omega
   simp only [valAt, World.cell?, hc]; rw [Array.getElem?_eq_getElem hjs] at hv; cases hv; simp [hjs]
  have h1 := hs.one _ _ _ hat; have h2 := hs.val _ _ hat; rw [hvv] at h1 h2; refine ⟨h1, ?_⟩
  by_cases hjn : j < n * z
  ·have e : (cellsOf ((l.take n).map f) ++ List.replicate ((k - (l.take n).length) * z) AV.top)[j]'(by rw [List.length_append, hl2, List.length_replicate, hlt]; exact hj) = (cellsOf (l.map f) ++ List.replicate ((k - l.length) * z) AV.top)[j] := by
    rw [List.getElem_append_left (by omega), List.getElem_append_left (by have := Nat.mul_le_mul_right z hn; omega)]
    have : cellsOf (l.map f) = cellsOf ((l.take n).map f) ++ cellsOf ((l.drop n).map f) := by rw [← cellsOf_app, ← List.map_append, List.take_append_drop]
    simp only [this]; rw [List.getElem_append_left (by omega)]
   rw [e]; rw [row_de hp] at h2; exact h2
  ·have e : (cellsOf ((l.take n).map f) ++ List.replicate ((k - (l.take n).length) * z) AV.top)[j]'(by rw [List.length_append, hl2, List.length_replicate, hlt]; exact hj) = .top := by
    rw [List.getElem_append_right (by omega), List.getElem_replicate]
   rw [e]; exact .flat (.top v)
theorem EndN.rowCut {α : Type} {f : α -> AV} {z : Nat} (hp : Plain f z) {s t : St} (b n : Nat) {k : Nat} {l : List α} (hb : s.bs[b]? = some (rowF f z k l)) (hn : n ≤ l.length) (hk : 0 < k) (h : EndN ⟨s.env, s.bs.set b (rowF f z k (l.take n)), s.lo⟩ t) : EndN s t := ⟨(Weak.rowCut hp s b n hb hn hk).trans h.out⟩
theorem EndN.frozeBx {α : Type} {f : α -> AV} {z : Nat} (hp : Plain f z) {s t : St} (c i : Nat) {cs : List AV} {b m k k0 : Nat} {l : List α} (h0 : s.bs[c]? = some (.cells cs)) (hi : cs[i]? = some (.bsl b m k)) (hb : s.bs[b]? = some (rowF f z k0 l)) (hm : m ≤ l.length) (h : EndN ⟨s.env, (s.bs.set b .dead).set c (.cells (cs.set i (.sl .no ((l.take m).map f)))), s.lo⟩ t) : EndN s t := ⟨(Weak.frozeBx hp s c i h0 hi hb hm).trans h.out⟩
theorem RetDP.done {b : Nat} {n : Int} {s : St} {rs : List RRes} {Q : AV -> List Box -> Prop} {l : List (Int × AV × Nat)} {c : Nat} (hb : s.bs[b]? = some (.mq l c)) (h : resK ⟨s.env, s.bs.set b (.mq (qdel l n) c), s.lo⟩ rs fun r b => fv (nrmT r) fun x => Q x b) : RetDP b n s rs Q := ⟨⟨s, Weak.refl s, l, c, hb, resK_mono (fun r b q => .inr (by rwa [fv_eq] at q)) h⟩⟩
theorem RetDP.wk {b : Nat} {n : Int} {s s' : St} {rs : List RRes} {Q : AV -> List Box -> Prop} (hw : Weak s s') (h : RetDP b n s' rs Q) : RetDP b n s rs Q := by
 obtain ⟨⟨s2, q1, q2⟩⟩ := h; exact ⟨⟨s2, hw.trans q1, q2⟩⟩
theorem RetDP.lay {b : Nat} {n : Int} {s : St} {rs : List RRes} {Q : AV -> List Box -> Prop} (is : List (Option Nat)) (hb : okO (inO is) s.bs is = true) (h : (⟨rnE (rhoO is) s.env, cutO (rhoO is) s.bs is, s.lo⟩ : St).fo true fun s' => RetDP b n s' rs Q) (h1 : onceO is = true := by rfl) (h2 : lowO s.lo 0 is = true := by rfl) (h3 : ltO s.bs.length is = true := by rfl) (h4 : Nat.ble s.lo is.length = true := by rfl) (he : atE (inO is) s.env = true := by rfl) : RetDP b n s rs Q := by
 rw [St.fo_eq] at h; exact RetDP.wk (Weak.lay s is h1 h2 h3 h4 he hb) h
def qB (l : List (Int × Nat)) : List (Int × AV × Nat) := l.map fun e => (e.1, .bool true, e.2)
theorem qget_qB : ∀ (l : List (Int × Nat)) (n : Int), qget (qB l) n = if n ∈ l.map (·.1) then some (.bool true) else none
 | [], n => rfl
 | (k, c) :: l, n => by
  have := qget_qB l n; simp only [qB] at this; simp only [qB, List.map_cons, qget, List.mem_cons]
  by_cases h : n = k
  ·rw [if_pos h, if_pos (.inl h)]
  ·rw [if_neg h, this]
   by_cases h2 : n ∈ l.map (·.1)
   ·rw [if_pos h2, if_pos (.inr h2)]
   ·rw [if_neg h2, if_neg (fun e => e.elim h h2)]
theorem qput_qB : ∀ (l : List (Int × Nat)) (n : Int) (c : Nat), n ∉ l.map (·.1) -> qput (qB l) n (.bool true) c = qB (l ++ [(n, c)])
 | [], n, c, _ => rfl
 | (k, b) :: l, n, c, h => by
  simp only [List.map_cons, List.mem_cons, not_or] at h; have := qput_qB l n c h.2; simp only [qB] at this; simp only [qB, List.map_cons, List.cons_append, qput, if_neg h.1, this]
theorem qdel_qB : ∀ (l : List (Int × Nat)) (n : Int) (c : Nat), n ∉ l.map (·.1) -> qdel (qB (l ++ [(n, c)])) n = qB l
 | [], n, c, _ => by simp [qB, qdel]
 | (k, b) :: l, n, c, h => by
  simp only [List.map_cons, List.mem_cons, not_or] at h; have := qdel_qB l n c h.2; simp only [qB] at this; simp only [qB, List.map_cons, List.cons_append, qdel, if_neg h.1, this]
theorem MqN.yes {l : List (Int × Nat)} {n : Int} {ok : Bool} {z : AV} {K : AV -> Prop} (hn : n ∈ l.map (·.1)) (h : K (okR ok (.bool true) true)) : MqN (qB l) n ok z K := ⟨by rw [qget_qB, if_pos hn]; exact ⟨rfl, h⟩⟩
theorem MqN.no {l : List (Int × Nat)} {n : Int} {ok : Bool} {z : AV} {K : AV -> Prop} (hn : n ∉ l.map (·.1)) (h : K (okR ok z false)) : MqN (qB l) n ok z K := ⟨by rw [qget_qB, if_neg hn]; exact h⟩
theorem Weak.toMq (s : St) (b : Nat) (hb : s.bs[b]? = some (.mp [])) : Weak s ⟨s.env, s.bs.set b (.mq [] 0), s.lo⟩ := fun E G a w h => by
 have hlt := (List.getElem?_eq_some_iff.1 hb).1; refine ⟨G, h.sameBoxes (fun c => ?_) (fun c => ?_) (by simp)⟩
 ·simp only [boxCells, List.getElem?_set]
  by_cases e : b = c
  ·subst e; simp only [if_true, hlt, hb]; rfl
  ·rw [if_neg e]
 ·simp only [boxLoop, List.getElem?_set]
  by_cases e : b = c
  ·subst e; simp only [if_true, hlt, hb]; rfl
  ·rw [if_neg e]
theorem EndN.toMq {s t : St} (b : Nat) (hb : s.bs[b]? = some (.mp [])) (h : EndN ⟨s.env, s.bs.set b (.mq [] 0), s.lo⟩ t) : EndN s t := ⟨(Weak.toMq s b hb).trans h.out⟩
theorem iS {b : ByteArray} {n : Int} {K : Int -> Prop} {y : UInt8} (k : K y.toNat) (h : b[n.toNat]? = some y := by assumption) (h0 : 0 ≤ n := by omega) : IdxSN b n K := ⟨y, ⟨h0, h⟩, k⟩
theorem gIs {b : ByteArray} {n : Int} {K : Int -> Prop} (h : IdxSN b n K) : IdxSN b n K := h
theorem oko {p : Prop} (h : p := by repeat' (first | exact rfl | exact atB_row plainN _ _ | exact atB_row plainPr _ _ | exact atB_row plainTmA _ _ | exact atB_row plainMsA _ _ | refine okO_cons ?_ ?_ | refine okO_none ?_ | refine allB_cons ?_ ?_)) : p := h
theorem CallN.ate {P : Program} {f : FuncId} {vals raw vals0 : List AV} {bs bs0 : List Box} {v : AV} {b : List Box} {K : AV -> List Box -> Prop} (is : List Nat) (h : Sem P f vals0 bs0 fun r bs' => r = v ∧ bs' = b) (hv0 : raw.map (AV.rn (rho is)) = vals0) (hb0 : cut is bs is = bs0) (hK : K (v.rn (pie is bs.length)) (back is bs b))
  (hQ1 : Nat.ble is.length b.length = true := by rfl) (hQ2 : v.atp (fun k => decide (k < b.length)) = true := by rfl) (hQ3 : allB (fun k => decide (k < b.length)) b = true := by exact oko) (hb : okO (inIx is) bs (is.map some) = true := by exact oko)
  (hnd : onceO (is.map some) = true := by rfl) (hin : ltO bs.length (is.map some) = true := by rfl) (hv : raw.all (AV.atp (inIx is)) = true := by rfl) : CallN P f vals raw bs K := by
 refine CallN.at is h hv0 hb0 ?_ hb ?_ hnd hin hv
 ·rintro r bs' ⟨rfl, rfl⟩; exact ⟨hQ1, hQ2, hQ3⟩
 ·rintro r bs' ⟨rfl, rfl⟩; exact hK
end Go.AM
namespace Go.CK
def cmpI (x y : Int) : Int := if x < y then -1 else if y < x then 1 else 0
def cmpS (x y : ByteArray) : Int := if Op.bytesLess x.toList y.toList = true then -1 else if x = y then 0 else 1
def orI (a b : Int) : Int := if a = 0 then b else a
theorem orI_z (b : Int) : orI 0 b = b := rfl
theorem orI_n {a : Int} (h : ¬ a = 0) (b : Int) : orI a b = a := if_neg h
theorem cmpI_refl (x : Int) : cmpI x x = 0 := by simp [cmpI]
theorem less_irr : ∀ l : List UInt8, Op.bytesLess l l = false
 | [] => rfl
 | x :: l => by simp [Op.bytesLess, less_irr l]
theorem cmpS_refl (x : ByteArray) : cmpS x x = 0 := by simp [cmpS, less_irr]
def rankI (k : Int) : Int := if k = 1 then 0 else if k = 0 then 1 else if k = 2 then 2 else 3
mutual
def Tm.cmp : Tm -> Tm -> Int
 | .mk k n s l, b =>
  orI (cmpI (rankI k) (rankI b.kind)) (if rankI k = 0 ∨ rankI k = 1 then cmpI n b.num else if rankI k = 2 then orI (cmpI l.length b.args.length) (orI (cmpS s b.name) (Tm.cmps l b.args)) else orI (cmpI k b.kind) (orI (cmpI n b.num) (cmpS s b.name)))
def Tm.cmps : List Tm -> List Tm -> Int
 | [], m => cmpI 0 m.length
 | x :: l, m => match m with
  | [] => 1
  | y :: m => orI (Tm.cmp x y) (Tm.cmps l m)
end
theorem Tm.cmp_eq (a b : Tm) : a.cmp b = orI (cmpI (rankI a.kind) (rankI b.kind)) (if rankI a.kind = 0 ∨ rankI a.kind = 1 then cmpI a.num b.num else if rankI a.kind = 2 then orI (cmpI a.args.length b.args.length) (orI (cmpS a.name b.name) (Tm.cmps a.args b.args)) else orI (cmpI a.kind b.kind) (orI (cmpI a.num b.num) (cmpS a.name b.name))) := by
 obtain ⟨k, n, s, l⟩ := a; rw [Tm.cmp]; rfl
theorem cmps_step {l m : List Tm} {j : Nat} {x y : Tm} (hx : l[j]? = some x) (hy : m[j]? = some y) : Tm.cmps (l.drop j) (m.drop j) = orI (x.cmp y) (Tm.cmps (l.drop (j + 1)) (m.drop (j + 1))) := by
 obtain ⟨h1, rfl⟩ := List.getElem?_eq_some_iff.1 hx; obtain ⟨h2, rfl⟩ := List.getElem?_eq_some_iff.1 hy; rw [List.drop_eq_getElem_cons h1, List.drop_eq_getElem_cons h2, Tm.cmps]
theorem cmps_end {l m : List Tm} {j : Nat} (h1 : j ≤ l.length) (h2 : j ≤ m.length) (h : j = l.length ∨ j = m.length) : Tm.cmps (l.drop j) (m.drop j) = cmpI l.length m.length := by
 rcases Nat.lt_or_ge j l.length with h3 | h3
 ·have : j = m.length := by omega
  subst this; rw [List.drop_eq_getElem_cons h3, List.drop_length, Tm.cmps, cmpI, if_neg (by omega), if_pos (by omega)]
 ·have : j = l.length := by omega
  subst this; rw [List.drop_length, Tm.cmps, List.length_drop]; unfold cmpI; split <;> split <;> first | rfl | omega | (split <;> first | rfl | omega)
theorem Tm.cmp_refl (t : Tm) : t.cmp t = 0 := by
 induction t using Tm.ind_all with
 | h k n s l ih =>
  have hl : ∀ r : List Tm, (∀ t ∈ r, t.cmp t = 0) -> Tm.cmps r r = 0 := fun r => by
   induction r with
   | nil => intro _; rfl
   | cons t r ihr => intro h; rw [Tm.cmps, h t (by simp), orI_z]; exact ihr fun x hx => h x (by simp [hx])
  rw [Tm.cmp]; simp only [Tm.kind, Tm.num, Tm.name, Tm.args, cmpI_refl, cmpS_refl, orI_z, hl l ih]; split <;> first | rfl | (split <;> rfl)
end Go.CK
namespace Go.Proofs
open Go.Shelf
def Try.laysSort_ren : Go.Shelf.Ren := ⟨fun | 189 => 65 | 125 => 77 | 257 => 76 | 128 => 92 | 129 => 93 | 294 => 83 | 295 => 84 | 296 => 85 | 297 => 86 | 298 => 87 | 299 => 88 | 216 => 89 | 300 => 90 | 301 => 91 | 328 => 98 | 329 => 99 | 330 => 100 | 331 => 101 | 332 => 102 | 215 => 103 | 343 => 106 | n => n, fun | 28 => 60 | 3 => 3 | 46 => 109 | 0 => 0 | 51 => 122 | 53 => 124 | 4 => 4 | 183 => 116 | 182 => 115 | 131 => 65 | 5 => 5 | 9 => 9 | 218 => 128 | 222 => 132 | 228 => 135 | 229 => 136 | n => n, fun | n => n⟩
theorem Try.laysSort : Go.Proofs.Lays.n189 Try.prog Try.laysSort_ren := {
 mixed := by kernel_rfl,
 f125 := Try.func77.trans (congrArg some (by kernel_rfl)),
 f128 := Try.func92.trans (congrArg some (by kernel_rfl)),
 f129 := Try.func93.trans (congrArg some (by kernel_rfl)),
 f189 := Try.func65.trans (congrArg some (by kernel_rfl)),
 f215 := Try.func103.trans (congrArg some (by kernel_rfl)),
 f216 := Try.func89.trans (congrArg some (by kernel_rfl)),
 f257 := Try.func76.trans (congrArg some (by kernel_rfl)),
 f294 := Try.func83.trans (congrArg some (by kernel_rfl)),
 f295 := Try.func84.trans (congrArg some (by kernel_rfl)),
 f296 := Try.func85.trans (congrArg some (by kernel_rfl)),
 f297 := Try.func86.trans (congrArg some (by kernel_rfl)),
 f298 := Try.func87.trans (congrArg some (by kernel_rfl)),
 f299 := Try.func88.trans (congrArg some (by kernel_rfl)),
 f300 := Try.func90.trans (congrArg some (by kernel_rfl)),
 f301 := Try.func91.trans (congrArg some (by kernel_rfl)),
 f328 := Try.func98.trans (congrArg some (by kernel_rfl)),
 f329 := Try.func99.trans (congrArg some (by kernel_rfl)),
 f330 := Try.func100.trans (congrArg some (by kernel_rfl)),
 f331 := Try.func101.trans (congrArg some (by kernel_rfl)),
 f332 := Try.func102.trans (congrArg some (by kernel_rfl)),
 f343 := Try.func106.trans (congrArg some (by kernel_rfl)),
 t0 := Try.underlying0,
 a0 := Try.isAgg0,
 z0 := Try.sizeOf0,
 v0 := Try.zeroValue0,
 t3 := Try.underlying3,
 a3 := Try.isAgg3,
 z3 := Try.sizeOf3,
 v3 := Try.zeroValue3,
 t4 := Try.underlying4,
 a4 := Try.isAgg4,
 z4 := Try.sizeOf4,
 v4 := Try.zeroValue4,
 t5 := Try.underlying5,
 a5 := Try.isAgg5,
 z5 := Try.sizeOf5,
 v5 := Try.zeroValue5,
 t9 := Try.underlying9,
 a9 := Try.isAgg9,
 z9 := Try.sizeOf9,
 v9 := Try.zeroValue9,
 t28 := Try.underlying60,
 a28 := Try.isAgg60,
 z28 := Try.sizeOf60,
 v28 := Try.zeroValue60,
 t46 := Try.underlying109,
 a46 := Try.isAgg109,
 z46 := Try.sizeOf109,
 v46 := Try.zeroValue109,
 t51 := Try.underlying122,
 a51 := Try.isAgg122,
 z51 := Try.sizeOf122,
 v51 := Try.zeroValue122,
 t53 := Try.underlying124,
 a53 := Try.isAgg124,
 z53 := Try.sizeOf124,
 v53 := Try.zeroValue124,
 t131 := Try.underlying65,
 a131 := Try.isAgg65,
 z131 := Try.sizeOf65,
 v131 := Try.zeroValue65,
 t182 := Try.underlying115,
 a182 := Try.isAgg115,
 z182 := Try.sizeOf115,
 v182 := Try.zeroValue115,
 t183 := Try.underlying116,
 a183 := Try.isAgg116,
 z183 := Try.sizeOf116,
 v183 := Try.zeroValue116,
 t218 := Try.underlying128,
 a218 := Try.isAgg128,
 z218 := Try.sizeOf128,
 v218 := Try.zeroValue128,
 t222 := Try.underlying132,
 a222 := Try.isAgg132,
 z222 := Try.sizeOf132,
 v222 := Try.zeroValue132,
 t228 := Try.underlying135,
 a228 := Try.isAgg135,
 z228 := Try.sizeOf135,
 v228 := Try.zeroValue135,
 t229 := Try.underlying136,
 a229 := Try.isAgg136,
 z229 := Try.sizeOf136,
 v229 := Try.zeroValue136 }
def Try.laysContains_ren : Go.Shelf.Ren := ⟨fun | 144 => 82 | 143 => 97 | 219 => 105 | 217 => 107 | 225 => 108 | 224 => 109 | 267 => 110 | 266 => 111 | 314 => 112 | n => n, fun | 9 => 9 | 4 => 4 | 3 => 3 | 5 => 5 | 46 => 109 | 146 => 139 | 51 => 122 | n => n, fun | 1 => 0 | n => n⟩
theorem Try.laysContains : Go.Proofs.Lays.n144 Try.prog Try.laysContains_ren := {
 mixed := by kernel_rfl,
 f143 := Try.func97.trans (congrArg some (by kernel_rfl)),
 f144 := Try.func82.trans (congrArg some (by kernel_rfl)),
 f217 := Try.func107.trans (congrArg some (by kernel_rfl)),
 f219 := Try.func105.trans (congrArg some (by kernel_rfl)),
 f224 := Try.func109.trans (congrArg some (by kernel_rfl)),
 f225 := Try.func108.trans (congrArg some (by kernel_rfl)),
 f266 := Try.func111.trans (congrArg some (by kernel_rfl)),
 f267 := Try.func110.trans (congrArg some (by kernel_rfl)),
 f314 := Try.func112.trans (congrArg some (by kernel_rfl)),
 t3 := Try.underlying3,
 a3 := Try.isAgg3,
 z3 := Try.sizeOf3,
 v3 := Try.zeroValue3,
 t4 := Try.underlying4,
 a4 := Try.isAgg4,
 z4 := Try.sizeOf4,
 v4 := Try.zeroValue4,
 t5 := Try.underlying5,
 a5 := Try.isAgg5,
 z5 := Try.sizeOf5,
 v5 := Try.zeroValue5,
 t9 := Try.underlying9,
 a9 := Try.isAgg9,
 z9 := Try.sizeOf9,
 v9 := Try.zeroValue9,
 t46 := Try.underlying109,
 a46 := Try.isAgg109,
 z46 := Try.sizeOf109,
 v46 := Try.zeroValue109,
 t51 := Try.underlying122,
 a51 := Try.isAgg122,
 z51 := Try.sizeOf122,
 v51 := Try.zeroValue122,
 t146 := Try.underlying139,
 a146 := Try.isAgg139,
 z146 := Try.sizeOf139,
 v146 := Try.zeroValue139,
 g1 := by kernel_rfl }
def Try.laysIndexFunc_ren : Go.Shelf.Ren := ⟨fun | 15 => 95 | 20 => 104 | n => n, fun | 9 => 9 | 23 => 127 | 3 => 3 | 4 => 4 | 0 => 0 | 21 => 21 | n => n, fun | n => n⟩
theorem Try.laysIndexFunc : Go.Proofs.LaysGw.n15 Try.prog Try.laysIndexFunc_ren := {
 mixed := by kernel_rfl,
 f15 := Try.func95.trans (congrArg some (by kernel_rfl)),
 f20 := Try.func104.trans (congrArg some (by kernel_rfl)),
 t0 := Try.underlying0,
 a0 := Try.isAgg0,
 z0 := Try.sizeOf0,
 v0 := Try.zeroValue0,
 i0 := by kernel_rfl,
 t3 := Try.underlying3,
 a3 := Try.isAgg3,
 z3 := Try.sizeOf3,
 v3 := Try.zeroValue3,
 i3 := by kernel_rfl,
 t4 := Try.underlying4,
 a4 := Try.isAgg4,
 z4 := Try.sizeOf4,
 v4 := Try.zeroValue4,
 i4 := by kernel_rfl,
 t9 := Try.underlying9,
 a9 := Try.isAgg9,
 z9 := Try.sizeOf9,
 v9 := Try.zeroValue9,
 i9 := by kernel_rfl,
 t21 := Try.underlying21,
 a21 := Try.isAgg21,
 z21 := Try.sizeOf21,
 v21 := Try.zeroValue21,
 i21 := by kernel_rfl,
 t23 := Try.underlying127,
 a23 := Try.isAgg127,
 z23 := Try.sizeOf127,
 v23 := Try.zeroValue127,
 i23 := by kernel_rfl }
def Try.laysSorted_ren : Go.Shelf.Ren := ⟨fun | 6 => 45 | 8 => 64 | 9 => 65 | 11 => 75 | 13 => 77 | 12 => 76 | 23 => 92 | 24 => 93 | 14 => 83 | 15 => 84 | 16 => 85 | 17 => 86 | 18 => 87 | 19 => 88 | 20 => 89 | 21 => 90 | 22 => 91 | 25 => 98 | 26 => 99 | 27 => 100 | 28 => 101 | 29 => 102 | 30 => 103 | 31 => 106 | n => n, fun | 26 => 3 | 28 => 77 | 24 => 60 | 0 => 0 | 3 => 3 | 37 => 109 | 48 => 122 | 50 => 124 | 4 => 4 | 40 => 116 | 39 => 115 | 45 => 65 | 5 => 5 | 9 => 9 | 51 => 128 | 55 => 132 | 57 => 135 | 58 => 136 | 33 => 102 | n => n, fun | n => n⟩
theorem Try.laysSorted : Go.Proofs.SlLaysZI.n6 Try.prog Try.laysSorted_ren := {
 mixed := by kernel_rfl,
 f6 := ⟨ "slices.Sorted[int]", by decide, Try.func45.trans (congrArg some (by kernel_rfl))⟩,
 f8 := ⟨ "slices.Collect[int]", by decide, Try.func64.trans (congrArg some (by kernel_rfl))⟩,
 f11 := ⟨ "slices.AppendSeq[[]int,int]", by decide, Try.func75.trans (congrArg some (by kernel_rfl))⟩,
 t0 := Try.underlying0,
 a0 := Try.isAgg0,
 z0 := Try.sizeOf0,
 v0 := Try.zeroValue0,
 t24 := Try.underlying60,
 a24 := Try.isAgg60,
 z24 := Try.sizeOf60,
 v24 := Try.zeroValue60,
 t26 := Try.underlying3,
 a26 := Try.isAgg3,
 z26 := Try.sizeOf3,
 v26 := Try.zeroValue3,
 t28 := Try.underlying77,
 a28 := Try.isAgg77,
 z28 := Try.sizeOf77,
 v28 := Try.zeroValue77,
 i26 := by kernel_rfl }
def Try.laysKeys_ren : Go.Shelf.Ren := ⟨fun | 7 => 46 | 10 => 66 | n => n, fun | 23 => 57 | 26 => 3 | 3 => 3 | 28 => 77 | 0 => 0 | 27 => 76 | 33 => 102 | 4 => 4 | n => n, fun | n => n⟩
theorem Try.laysKeys : Go.Proofs.SlLaysZI.n7 Try.prog Try.laysKeys_ren := {
 mixed := by kernel_rfl,
 f7 := ⟨ "maps.Keys[map[int]int,int,int]", by decide, Try.func46.trans (congrArg some (by kernel_rfl))⟩,
 f10 := ⟨ "maps.Keys[map[int]int,int,int]$1", by decide, Try.func66.trans (congrArg some (by kernel_rfl))⟩,
 t0 := Try.underlying0,
 a0 := Try.isAgg0,
 z0 := Try.sizeOf0,
 v0 := Try.zeroValue0,
 t4 := Try.underlying4,
 a4 := Try.isAgg4,
 z4 := Try.sizeOf4,
 v4 := Try.zeroValue4,
 t23 := Try.underlying57,
 a23 := Try.isAgg57,
 z23 := Try.sizeOf57,
 v23 := Try.zeroValue57,
 t26 := Try.underlying3,
 a26 := Try.isAgg3,
 z26 := Try.sizeOf3,
 v26 := Try.zeroValue3,
 t27 := Try.underlying76,
 a27 := Try.isAgg76,
 z27 := Try.sizeOf76,
 v27 := Try.zeroValue76,
 t28 := Try.underlying77,
 a28 := Try.isAgg77,
 z28 := Try.sizeOf77,
 v28 := Try.zeroValue77,
 t33 := Try.underlying102,
 a33 := Try.isAgg102,
 z33 := Try.sizeOf102,
 v33 := Try.zeroValue102 }
end Go.Proofs
