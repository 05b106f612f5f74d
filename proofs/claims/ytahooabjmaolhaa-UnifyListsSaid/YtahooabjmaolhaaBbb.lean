/-
  Texts of this claim joined (wip/gen/bundle.py), those declarations only that are needed: UlH UnT UnU UnW UlI UlJ. By an AI agent.
-/
import Derived.Test.YtahooabjmaolhaaBba
import Derived.Test.YtahooabjmaolhaaBay
import Derived.Test.YtahooabjmaolhaaBau
import Derived.KernelRfl
set_option linter.unusedSimpArgs false
set_option linter.unusedVariables false
namespace Go.CK
open Go.AM
theorem deps_le {l : List Tm} {x : Tm} (h : x ∈ l) : x.dep ≤ Tm.deps l := deps_mem h
theorem expL_law {N : Nat} {g0 : Gr} (h0 : GW N g0) {M : Gr -> Nat -> Option (Gr × Tm)} {kd : List Nat} {ex : Nat -> Tm}
  (hM : ∀ (g : Gr) (c x : Nat), c ∈ kd -> Like g0 g -> g0.R c x -> ∃ g2, M g x = some (g2, ex x) ∧ Like g g2) :
  ∀ (xs : List Nat) (g : Gr), (∀ x ∈ xs, x ∈ kd ∧ x < g0.nodes.length) -> Like g0 g -> ∃ g2 ts, expL N M g xs = some (g2, ts) ∧ Like g0 g2 ∧ ts.length = xs.length ∧ ∀ (j c s : Nat), xs[j]? = some c -> g0.R c s -> ts[j]? = some (ex s)
 | [], g, _, hl => ⟨g, [], rfl, hl, rfl, fun j c s h => by simp at h⟩
 | x :: xs, g, hx, hl => by
  have hg := h0.like hl; have hlt : x < g.up.length := by rw [hl.up.1, h0.len]; exact (hx x (List.mem_cons_self ..)).2
  obtain ⟨u, r, e1, e2, e3⟩ := hg.root hlt; have hl2 : Like g { g with up := u } := ⟨rfl, rfl, rfl, rfl, e2⟩; have hl02 := hl.trans hl2; have hr0 : g0.R x r := by rw [hl.rr h0.tot] at e3; exact e3
  obtain ⟨g2, f1, f2⟩ := hM _ x r (hx x (List.mem_cons_self ..)).1 hl02 hr0; have hup : g2.up.length = g.up.length := by rw [f2.up.1]; exact e2.1
  obtain ⟨g3, ts, q1, q2, q3, q4⟩ := expL_law h0 hM xs g2 (fun y hy => hx y (List.mem_cons_of_mem _ hy)) (hl02.trans f2); refine ⟨g3, ex r :: ts, by simp only [expL, e1, f1, if_pos hup, q1], q2, by simp only [List.length_cons, q3], fun j c s h1 h2 => ?_⟩
  cases j with
  | zero =>
   simp at h1; subst h1
   rw [h0.par.det _ _ _ h2 hr0]; rfl
  | succ j => exact q4 j c s (by simpa using h1) h2
theorem expF_law {N : Nat} : ∀ (f : Nat) (g : Gr) (r : Nat) (t : Tm), GW N g -> g.Ex r t -> t.dep ≤ f -> ∃ g', expF N f g r = some (g', t) ∧ Like g g'
 | 0, g, r, t, _, _, h => by have := dep_pos t; omega
 | f + 1, g, r, t, hg, ht, hf => by
  have hp := hg.par; generalize htt : t = t' at ht
  cases ht with
  | var h h1 h2 =>
   rename_i w; have h1 : lk g.shape r = none := h1; have h2 : lk g.least r = some w := h2
   exact ⟨g, by simp only [expF, h1, lkD, h2], .refl g⟩
  | leaf h h1 h2 h3 =>
   rename_i k x; have h1 : lk g.shape r = some k := h1
   exact ⟨g, by simp only [expF, h1, h2]; rw [if_pos (by rw [h3]; rfl)], .refl g⟩
  | fn h h1 h2 h3 h4 h5 =>
   rename_i k x ts; have h1 : lk g.shape r = some k := h1; have hlen := hg.nds.len _ _ h2; have hsix := kids_six hg.nds h2
   have hk2 : x.t.kind = 2 := by
    obtain ⟨x', e1, e2, _⟩ := (hg.shp r h).1 k h1; rw [h2] at e1; cases e1
    by_cases hk : x.t.kind = 2
    ·exact hk
    ·have := frm_int (hg.nds.frm _ _ h2) e2 hk; rw [this] at h3; exact absurd rfl h3
   have hdep : t.dep = Tm.deps ts + 1 := by rw [htt]; exact dep_fun (t := Tm.mk x.t.kind x.t.num x.t.name ts) hk2
   have hne : ¬ x.t.args.length = 0 := fun e => h3 (List.eq_nil_of_length_eq_zero e)
   -- the terms of the arguments' classes, by class
   have hex : ∃ ex : Nat -> Tm, ∀ (j c s : Nat) (y : Tm), x.kids[j]? = some c -> g.R c s -> ts[j]? = some y -> ex s = y := by
    classical
    refine ⟨fun s => if h : ∃ y, g.Ex s y then h.choose else varT 0, fun j c s y a1 a2 a3 => ?_⟩; have hy := h5 j c s y a1 a2 a3; have he : ∃ y, g.Ex s y := ⟨y, hy⟩; simp only [dif_pos he]; exact he.choose_spec.det hg.nds hp hy
   obtain ⟨ex, hex⟩ := hex
   have hM : ∀ (g1 : Gr) (c s : Nat), c ∈ x.kids -> Like g g1 -> g.R c s -> ∃ g2, expF N f g1 s = some (g2, ex s) ∧ Like g1 g2 := fun g1 c s hc hl hcs => by
    obtain ⟨j, hj⟩ := List.getElem?_of_mem hc; have hlt := (List.getElem?_eq_some_iff.1 hj).1; have e1 : ts[j]? = some (ts[j]'(by omega)) := List.getElem?_eq_getElem (by omega)
    have e2 := h5 j c s _ hj hcs e1; have e3 := hex j c s _ hj hcs e1; rw [e3]; have hd := deps_le (List.mem_of_getElem? e1); obtain ⟨g2, q1, q2⟩ := expF_law f g1 s _ (hg.like hl) (by rw [hl.ex hg.tot]; exact e2) (by omega)
    exact ⟨g2, q1, q2⟩
   have hkd : ∀ y ∈ x.kids, y ∈ x.kids ∧ y < g.nodes.length := fun y hy => by
    obtain ⟨j, hj⟩ := List.getElem?_of_mem hy; exact ⟨hy, kid_lt hg.nds h2 hj⟩
   obtain ⟨g2, ts2, q1, q2, q3, q4⟩ := expL_law hg (M := expF N f) hM x.kids g hkd (.refl g)
   have hts : ts2 = ts := by
    apply List.ext_getElem?; intro j
    cases hc : x.kids[j]? with
    | none =>
     rw [List.getElem?_eq_none_iff] at hc
     rw [List.getElem?_eq_none_iff.2 (by omega), List.getElem?_eq_none_iff.2 (by omega)]
    | some c =>
     have hlt := (List.getElem?_eq_some_iff.1 hc).1; obtain ⟨s, hs⟩ := hp.tot c (kid_lt hg.nds h2 hc); have e1 : ts[j]? = some (ts[j]'(by omega)) := List.getElem?_eq_getElem (by omega)
     rw [q4 j c s hc hs, e1, hex j c s _ hc hs e1]
   subst hts; refine ⟨g2, ?_, q2⟩; simp only [expF, h1, h2]; rw [if_neg hne, if_pos ⟨hlen, by omega⟩, q1]
theorem roundM_law {N f : Nat} : ∀ (ks : List Nat) (g : Gr), GW N g -> KnownOk g -> (∀ k ∈ ks, k < g.nodes.length) -> nuB g.nodes.length [] < f -> ∃ g' b, roundM N f ks g = some (g', b) ∧ Like g g' ∧ (b = false -> NoSat g) ∧ (b = true -> KnownOk g' ∧ KnM g g' ∧ ∀ k ∈ ks, ∀ r, g.R k r -> lk g'.known r ≠ none)
 | [], g, hg, hk, _, _ => ⟨g, true, rfl, .refl g, fun e => (by cases e), fun _ => ⟨hk, fun k h => h, fun k h => by cases h⟩⟩
 | k :: ks, g, hg, hk, hks, hf => by
  have hlt : k < g.up.length := by rw [hg.len]; exact hks k (List.mem_cons_self ..)
  obtain ⟨u, r, e1, e2, e3⟩ := hg.root hlt; have hl : Like g { g with up := u } := ⟨rfl, rfl, rfl, rfl, e2⟩; have hg1 := hg.like hl; have hrr := hg.par.idem _ _ e3; obtain ⟨g2, mo, q1, q2, q3, q4, q5⟩ := measF_law f { g with up := u } [] r hg1 (hl.known hg.tot rfl hk) (by rw [hl.rr hg.tot]; exact hrr) (fun σ _ j hj => by cases hj) hf
  have hl2 := hl.trans q2
  cases mo with
  | none =>
   exact ⟨g2, false, by simp only [roundM, e1, q1], hl2, fun _ => (hl.nosat hg.tot).1 (q4 rfl), fun e => by cases e⟩
  | some m =>
   obtain ⟨s1, s2, _⟩ := q5 m rfl; obtain ⟨g3, b, p1, p2, p3, p4⟩ := roundM_law ks g2 (hg.like hl2) s1 (fun j hj => by rw [hl2.nodes]; exact hks j (List.mem_cons_of_mem _ hj)) (by rw [hl2.nodes]; exact hf)
   refine ⟨g3, b, by simp only [roundM, e1, q1]; exact p1, hl2.trans p2, fun e => (hl2.nosat hg.tot).1 (p3 e), fun e => ?_⟩
   obtain ⟨t1, t2, t3⟩ := p4 e; refine ⟨t1, fun j h => t2 j (q3 j h), fun j hj s hs => ?_⟩; rcases List.mem_cons.1 hj with rfl | hj
   ·rw [hg.par.det _ _ _ hs e3]; exact t2 _ s2
   ·exact t3 j hj s (by rw [hl2.rr hg.tot]; exact hs)
theorem expL_known {N : Nat} {M : Gr -> Nat -> Option (Gr × Tm)} (hM : ∀ {g r g2 t}, M g r = some (g2, t) -> g2.known = g.known) : ∀ {xs : List Nat} {g g2 : Gr} {l : List Tm}, expL N M g xs = some (g2, l) -> g2.known = g.known
 | [], g, g2, l, h => by cases h; rfl
 | x :: xs, g, g2, l, h => by
  rw [expL] at h; split at h
  ·cases h
  ·split at h
   ·cases h
   ·rename_i h1; split at h
    ·split at h
     ·cases h
     ·rename_i h2; cases h; have h3 := expL_known hM h2; have h4 := hM h1; exact h3.trans h4
    ·cases h
theorem expF_known {N : Nat} : ∀ {f : Nat} {g g2 : Gr} {r : Nat} {t : Tm}, expF N f g r = some (g2, t) -> g2.known = g.known
 | 0, g, g2, r, t, h => by cases h
 | f + 1, g, g2, r, t, h => by
  rw [expF] at h; split at h
  ·cases h; rfl
  ·split at h
   ·cases h
   ·split at h
    ·cases h; rfl
    ·split at h
     ·split at h
      ·cases h
      ·rename_i h1; cases h; exact expL_known (M := expF N f) (fun {g r g2 t} h => expF_known (f := f) h) h1
     ·cases h
theorem capM_fits (t : Tm) : (200 < (capM t).1 ∨ 20 < (capM t).2) ↔ ¬ fits t := by
 unfold capM fits; dsimp only; omega
noncomputable def boundsOf (M : Int -> Tm) (vs : List Int) : List Bnd := (vs.filter fun v => decide (¬ M v = varT v)).map fun v => ⟨v, M v⟩
theorem roundS_law {N f : Nat} (hf : 20 ≤ f) {g0 : Gr} (h0 : GW N g0) (hkn : KnownOk g0) (hall : ∀ r : Nat, g0.R r r -> lk g0.known r ≠ none) : ∀ (vs : List Int) (g : Gr) (out : List Bnd), Like g0 g -> g.known = g0.known -> (∀ v ∈ vs, lk g0.vars v ≠ none) ->
  ∃ g' ro, roundS N f vs g out = some (g', ro) ∧ ((ro = some (out ++ boundsOf (mguM g0.nodes g0.R g0.sh g0.le) vs) ∧ ∀ v ∈ vs, ¬ mguM g0.nodes g0.R g0.sh g0.le v = varT v -> fits (mguM g0.nodes g0.R g0.sh g0.le v)) ∨ (ro = none ∧ ∃ v ∈ vs, ¬ mguM g0.nodes g0.R g0.sh g0.le v = varT v ∧ ¬ fits (mguM g0.nodes g0.R g0.sh g0.le v)))
 | [], g, out, _, _, _ => ⟨g, some out, rfl, .inl ⟨by simp [boundsOf], fun v h => by cases h⟩⟩
 | v :: vs, g, out, hl, hk, hvs => by
  have hg := h0.like hl; have hp := h0.par; obtain ⟨M, hM⟩ : ∃ M, M = mguM g0.nodes g0.R g0.sh g0.le := ⟨_, rfl⟩; have ih := fun g' out' a b => roundS_law hf h0 hkn hall vs g' out' a b (fun w hw => hvs w (List.mem_cons_of_mem _ hw)); rw [← hM] at ih ⊢
  cases hvk : lk g0.vars v with
  | none => exact absurd hvk (hvs v (List.mem_cons_self ..))
  | some k =>
   obtain ⟨x, x1, x2⟩ := (h0.vars v k).1 hvk; have hklt := (List.getElem?_eq_some_iff.1 x1).1; obtain ⟨u, r, e1, e2, e3⟩ := hg.root (k := k) (by rw [hl.up.1, h0.len]; exact hklt)
   have hl2 : Like g { g with up := u } := ⟨rfl, rfl, rfl, rfl, e2⟩; have hl02 := hl.trans hl2; have hr0 : g0.R k r := by rw [hl.rr h0.tot] at e3; exact e3
   have hrr := hp.idem _ _ hr0; have hgv : lk g.vars v = some k := by rw [hl.vars]; exact hvk
   cases hkr : lk g0.known r with
   | none => exact absurd hkr (hall r hrr)
   | some m =>
    obtain ⟨t, ht, hm⟩ := hkn r m hkr; have hMv : M v = t := by rw [hM]; exact mguM_at h0.nds hp x1 x2 hr0 ht
    have hskip : (lk g.shape r = none ∧ lkD g.least r = v) ↔ M v = varT v := by
     rw [hMv, hl.shape, hl.least]; obtain ⟨s1, s2⟩ := h0.shp r hrr; generalize htt : t = t' at ht
     cases ht with
     | var h h1 h2 =>
      rename_i w; have h1 : lk g0.shape r = none := h1; have h2 : lk g0.least r = some w := h2; rw [show lkD g0.least r = w by rw [lkD, h2], h1]
      exact ⟨fun e => by rw [e.2], fun e => ⟨rfl, varT_inj e⟩⟩
     | leaf h h1 h2 h3 =>
      rename_i q y; have h1 : lk g0.shape r = some q := h1; rw [h1]; refine ⟨fun e => (by cases e.1), fun e => ?_⟩
      obtain ⟨y', f1, f2, _⟩ := s1 q h1; rw [h2] at f1; cases f1
      rw [e] at f2; exact absurd rfl f2
     | fn h h1 h2 h3 h4 h5 =>
      rename_i q y ts; have h1 : lk g0.shape r = some q := h1; rw [h1]; refine ⟨fun e => (by cases e.1), fun e => ?_⟩
      obtain ⟨y', f1, f2, _⟩ := s1 q h1; rw [h2] at f1; cases f1; exact absurd (congrArg Tm.kind e) f2
    by_cases hs : M v = varT v
    ·obtain ⟨g', ro, q1, q2⟩ := ih { g with up := u } out hl02 hk; refine ⟨g', ro, by simp only [roundS, hgv, e1, if_pos (hskip.2 hs)]; exact q1, ?_⟩
     have hb : boundsOf M (v :: vs) = boundsOf M vs := by unfold boundsOf; rw [List.filter_cons_of_neg (by simp [hs])]
     rw [hb]; rcases q2 with ⟨h1, h2⟩ | ⟨h1, w, h2, h3⟩
     ·exact .inl ⟨h1, fun w hw hn => by
       rcases List.mem_cons.1 hw with rfl | hw
       ·exact absurd hs hn
       ·exact h2 w hw hn⟩
     ·exact .inr ⟨h1, w, List.mem_cons_of_mem _ h2, h3⟩
    ·have hns : ¬ (lk g.shape r = none ∧ lkD g.least r = v) := fun e => hs (hskip.1 e); have hgk : lk g.known r = some m := by rw [hk]; exact hkr
     by_cases hbig : 200 < m.1 ∨ 20 < m.2
     ·refine ⟨{ g with up := u }, none, by simp only [roundS, hgv, e1, if_neg hns, hgk, if_pos hbig], .inr ⟨rfl, v, List.mem_cons_self .., hs, ?_⟩⟩
      rw [hMv, ← capM_fits, ← hm]; exact hbig
     ·have hfit : fits t := by
       have := mt (capM_fits t).2; rw [← hm] at this; exact Decidable.byContradiction fun e => hbig ((by rw [hm]; exact (capM_fits t).2 e))
      obtain ⟨g2, q1, q2⟩ := expF_law f { g with up := u } r t (h0.like hl02) (by rw [hl02.ex h0.tot]; exact ht) (by have := hfit.2; omega)
      have hup : g2.up.length = g.up.length := by rw [q2.up.1]; exact e2.1
      have hk2 : g2.known = g.known := by have h3 := expF_known q1; exact h3
      obtain ⟨g', ro, p1, p2⟩ := ih g2 (out ++ [⟨v, t⟩]) (hl02.trans q2) (hk2.trans hk); refine ⟨g', ro, by simp only [roundS, hgv, e1, if_neg hns, hgk, if_neg hbig, q1, if_pos hup]; exact p1, ?_⟩
      have hb : boundsOf M (v :: vs) = ⟨v, t⟩ :: boundsOf M vs := by unfold boundsOf; rw [List.filter_cons_of_pos (by simp [hs]), List.map_cons, hMv]
      rw [hb]; rcases p2 with ⟨h1, h2⟩ | ⟨h1, w, h2, h3⟩
      ·refine .inl ⟨by rw [h1, List.append_assoc]; rfl, fun w hw hn => ?_⟩
       rcases List.mem_cons.1 hw with rfl | hw
       ·rw [hMv]; exact hfit
       ·exact h2 w hw hn
      ·exact .inr ⟨h1, w, List.mem_cons_of_mem _ h2, h3⟩
theorem sortL_le (l : List Int) : (sortL l).Pairwise (· ≤ ·) := by
 have := List.pairwise_mergeSort (le := fun x y : Int => decide (x ≤ y)) (fun a b c h1 h2 => by simp only [decide_eq_true_eq] at *; omega) (fun a b => by simp only [Bool.or_eq_true, decide_eq_true_eq]; omega) l
 exact this.imp fun h => by simpa using h
theorem sortL_perm (l : List Int) : (sortL l).Perm l := List.mergeSort_perm l _
theorem sortL_lt {l : List Int} (h : l.Nodup) : (sortL l).Pairwise (· < ·) := by
 have h1 := sortL_le l; have h2 : (sortL l).Nodup := (sortL_perm l).nodup_iff.2 h; exact (h1.and h2).imp fun ⟨a, b⟩ => by omega
theorem lk_mem {β : Type} : ∀ {l : List (Int × β)} {n : Int}, lk l n ≠ none ↔ n ∈ l.map (·.1)
 | [], n => by simp [lk]
 | (k, x) :: l, n => by
  simp only [lk, List.map_cons, List.mem_cons]; split
  ·rename_i h; simp [h]
  ·rename_i h; rw [lk_mem (l := l)]; simp [h]
def Rng (out : List Bnd) : Prop := ∀ c ∈ out, 0 ≤ c.v ∧ c.v ≤ 1048576 ∧ c.t.form = true
theorem Rng.nil : Rng [] := fun c h => by cases h
theorem solvedF_law {N f : Nat} {g : Gr} (hg : GW N g) (hc : Closed g.nodes g.R []) (hk : g.known = []) (hnd : (g.vars.map (·.1)).Nodup) (hf : g.nodes.length < f) (hf20 : 20 ≤ f) : ∃ out e, solvedF N f g = some (out, e) ∧ Ans (Sat g.nodes g.R []) out e ∧ Rng out := by
 have hnu : nuB g.nodes.length [] < f := by
  unfold nuB; have := List.countP_le_length (p := fun (k : Nat) => decide (¬ ((k : Nat) : Int) ∈ ([] : List Int))) (l := List.range g.nodes.length); rw [List.length_range] at this; omega
 have hk0 : KnownOk g := fun r m h => by rw [hk] at h; cases h
 obtain ⟨g1, b, q1, q2, q3, q4⟩ := roundM_law (N := N) (f := f) (List.range g.nodes.length) g hg hk0 (fun k h => List.mem_range.1 h) hnu
 cases b with
 | false => exact ⟨[], 13, by simp only [solvedF, q1], .inl ⟨q3 rfl, rfl, rfl⟩, .nil⟩
 | true =>
  obtain ⟨s1, _, s3⟩ := q4 rfl; have hg1 := hg.like q2
  have hall : ∀ r : Nat, g1.R r r -> lk g1.known r ≠ none := fun r hr => by
   rw [q2.rr hg.tot] at hr; exact s3 r (List.mem_range.2 (hg.par.lt _ _ hr).1) r hr
  have hex : ∀ r, g.R r r -> ∃ t, g.Ex r t := fun r hr => by
   have h1 := hall r (by rw [q2.rr hg.tot]; exact hr)
   cases hkr : lk g1.known r with
   | none => exact absurd hkr h1
   | some m =>
    obtain ⟨t, ht, _⟩ := s1 r m hkr; rw [q2.ex hg.tot] at ht; exact ⟨t, ht⟩
  have hm := mgu_of hg.nds hg.par hg.shp hg.lst hc hex
  have hM : mguM g1.nodes g1.R g1.sh g1.le = mguM g.nodes g.R g.sh g.le := by
   have e2 : g1.sh = g.sh := by show (fun r : Nat => lk g1.shape r) = _; rw [q2.shape]
   have e3 : g1.le = g.le := by show (fun r : Nat => lk g1.least r) = _; rw [q2.least]
   rw [q2.nodes, q2.rr hg.tot, e2, e3]
  have hvs : ∀ v ∈ sortL (g1.vars.map (·.1)), lk g1.vars v ≠ none := fun v hv => lk_mem.2 ((sortL_perm _).mem_iff.1 hv); obtain ⟨g2, ro, p1, p2⟩ := roundS_law (N := N) (f := f) hf20 hg1 s1 hall (sortL (g1.vars.map (·.1))) g1 [] (.refl g1) rfl hvs; rw [hM] at p2; obtain ⟨M, hMM⟩ : ∃ M, M = mguM g.nodes g.R g.sh g.le := ⟨_, rfl⟩; rw [← hMM] at p2 hm; rcases p2 with ⟨rfl, h2⟩ | ⟨rfl, v, h2, h3, h4⟩
  ·refine ⟨boundsOf M (sortL (g1.vars.map (·.1))), 0, by simp only [solvedF, q1, p1, List.nil_append], .inr ⟨M, hm, .inl ⟨⟨?_, fun v t => ?_⟩, fun c hcm => ?_, rfl⟩⟩, fun c hcm => ?_⟩
   ·unfold boundsOf; rw [List.map_map]; have : (sortL (g1.vars.map (·.1))).Pairwise (· < ·) := sortL_lt (by rw [q2.vars]; exact hnd)
    have h5 := this.filter (fun v => decide (¬ M v = varT v)); rw [List.pairwise_map]; exact h5
   ·unfold boundsOf; rw [List.mem_map]; constructor
    ·rintro ⟨w, hw, e⟩; cases e; rw [List.mem_filter, decide_eq_true_iff] at hw; exact ⟨rfl, hw.2⟩
    ·rintro ⟨rfl, hv⟩; refine ⟨v, ?_, rfl⟩; rw [List.mem_filter, decide_eq_true_iff]; refine ⟨(sortL_perm _).mem_iff.2 (lk_mem.1 ?_), hv⟩; rw [q2.vars]; intro hn; apply hv; rw [hMM]; refine mguM_no ?_; rintro ⟨k, x, e1, e2⟩; have := (hg.vars v k).2 ⟨x, e1, e2⟩; rw [hn] at this; cases this
   ·unfold boundsOf at hcm; obtain ⟨w, hw, rfl⟩ := List.mem_map.1 hcm; rw [List.mem_filter, decide_eq_true_iff] at hw; exact h2 w hw.1 hw.2
   ·unfold boundsOf at hcm; obtain ⟨w, hw, rfl⟩ := List.mem_map.1 hcm; rw [List.mem_filter] at hw; have hwv := hvs w hw.1
    cases hlk : lk g1.vars w with
    | none => exact absurd hlk hwv
    | some k =>
     rw [q2.vars] at hlk; obtain ⟨x, x1, x2⟩ := (hg.vars w k).1 hlk; have hfx := hg.nds.frm _ _ x1; have hv := form_var hfx (by rw [x2]; rfl)
     rw [x2] at hv; obtain ⟨r, hr⟩ := hg.par.tot k (List.getElem?_eq_some_iff.1 x1).1; obtain ⟨t, ht⟩ := hex r (hg.par.idem _ _ hr); refine ⟨hv.1, hv.2.1, ?_⟩; show (M w).form = true; rw [hMM, mguM_at hg.nds hg.par x1 x2 hr ht]; exact ht.form hg.nds hg.par hg.shp hg.lst
  ·exact ⟨[], 6, by simp only [solvedF, q1, p1], .inr ⟨M, hm, .inr ⟨⟨v, h3, h4⟩, rfl, rfl⟩⟩, .nil⟩
theorem sat_pair {nds : List Nd} {rt : Nat -> Nat -> Prop} {i k : Nat} {σ : Int -> Tm} : Sat nds rt [(i, k)] σ ↔ Sat nds rt [] σ ∧ gv nds σ i = gv nds σ k :=
 ⟨fun h => ⟨⟨h.1, fun p hp => by cases hp⟩, h.2 (i, k) (List.mem_singleton.2 rfl)⟩, fun h => ⟨h.1.1, fun p hp => by rw [List.mem_singleton] at hp; subst hp; exact h.2⟩⟩
theorem closed_more {nds : List Nd} {rt : Nat -> Nat -> Prop} {ps : List (Nat × Nat)} (h : Closed nds rt []) : Closed nds rt ps := fun i k r x y hx hy hx1 hy1 hi hk => (h i k r x y hx hy hx1 hy1 hi hk).mono fun c d hcd => Cl.map (ps := []) (fun c d r h1 h2 => .cls h1 h2) (fun c d hm => by cases hm) hcd
theorem runF_law {N f : Nat} : ∀ (ps : List (Tm × Tm)) (g : Gr), GW N g -> Closed g.nodes g.R [] -> g.known = [] -> g.ok -> (∀ p ∈ ps, p.1.form = true ∧ p.2.form = true) -> g.up.length + (Tm.nodess (ps.map (·.1)) + Tm.nodess (ps.map (·.2))) < N -> 7 * N + 1 < f -> N ≤ 400000000 ->
  ∃ g' b, runF N f g ps = some (g', b) ∧ (b = true -> GW N g' ∧ Closed g'.nodes g'.R [] ∧ g'.known = [] ∧ g'.ok ∧ ∀ σ, Sat g'.nodes g'.R [] σ ↔ (Sat g.nodes g.R [] σ ∧ Eqs ps σ)) ∧ (b = false -> ∀ σ, ¬ (Sat g.nodes g.R [] σ ∧ Eqs ps σ))
 | [], g, hg, hc, hk, hok, _, _, _, _ => ⟨g, true, rfl, fun _ => ⟨hg, hc, hk, hok, fun σ => ⟨fun h => ⟨h, fun p hp => by cases hp⟩, fun h => h.1⟩⟩, fun e => by cases e⟩
 | (x, y) :: ps, g, hg, hc, hk, hok, hfm, hN, hf, hN2 => by
  obtain ⟨fx, fy⟩ := hfm (x, y) (List.mem_cons_self ..); simp only [List.map_cons, Tm.nodess] at hN; have ok1 := addT_gok x fx hok; obtain ⟨a1, n1, a2, a3⟩ := addT_law x hg hc fx (by omega)
  have l1 := (addT_len g x).2; have ok2 := addT_gok y fy ok1; obtain ⟨b1, n2, b2, b3⟩ := addT_law y a1.gw a1.cl fy (by omega)
  have l2 := (addT_len (addT g x).1 y).2; have hab := a1.trans b1; have hx2 := b1.old _ _ a2; have hlen := b1.gw.len; have hcls := cls_le (addT (addT g x).1 y).1.up; have hlim := b1.gw.lim
  obtain ⟨g', b, q1, q2, q3⟩ := joinF_law f (addT (addT g x).1 y).1 [((addT g x).2, (addT (addT g x).1 y).2)] b1.gw (closed_more b1.cl) (fun p hp => by
   rw [List.mem_singleton] at hp; subst hp; exact ⟨by rw [hlen]; exact (List.getElem?_eq_some_iff.1 hx2).1, by rw [hlen]; exact (List.getElem?_eq_some_iff.1 b2).1⟩) (by simp only [List.length_singleton]; omega) (by simp only [List.length_singleton]; omega)
  have hsat : ∀ σ, Sat (addT (addT g x).1 y).1.nodes (addT (addT g x).1 y).1.R [((addT g x).2, (addT (addT g x).1 y).2)] σ ↔ (Sat g.nodes g.R [] σ ∧ app σ x = app σ y) := fun σ => by
   rw [sat_pair, hab.sat σ, gv_at hx2, gv_at b2, a3, b3]
  have hcons : ∀ σ, Eqs ((x, y) :: ps) σ ↔ (app σ x = app σ y ∧ Eqs ps σ) := fun σ => ⟨fun h => ⟨h (x, y) (List.mem_cons_self ..), fun p hp => h p (List.mem_cons_of_mem _ hp)⟩, fun h p hp => by
   rcases List.mem_cons.1 hp with rfl | hp
   ·exact h.1
   ·exact h.2 p hp⟩
  cases b with
  | false =>
   refine ⟨g', false, by simp only [runF, q1], fun e => (by cases e), fun _ σ hs => ?_⟩
   rw [hcons] at hs
   exact q3 rfl σ ((hsat σ).2 ⟨hs.1, hs.2.1⟩)
  | true =>
   obtain ⟨k1, k2, k3, k4, k5, k6⟩ := q2 rfl; have hk' : g'.known = [] := by rw [k5, hab.kn, hk]
   have hok' := (joinF_gok q1 ok2).1; have hup' : g'.up.length = (addT (addT g x).1 y).1.up.length := by rw [k1.len, k3, hlen]
   obtain ⟨g3, b3', p1, p2, p3⟩ := runF_law ps g' k1 k2 hk' hok' (fun p hp => hfm p (List.mem_cons_of_mem _ hp)) (by omega) hf hN2
   refine ⟨g3, b3', by simp only [runF, q1]; exact p1, fun e => ?_, fun e σ hs => ?_⟩
   ·obtain ⟨s1, s2, s3, s4, s5⟩ := p2 e; refine ⟨s1, s2, s3, s4, fun σ => ?_⟩; rw [s5 σ, k6 σ, hsat σ, hcons σ, and_assoc]
   ·rw [hcons] at hs; exact p3 e σ ⟨(k6 σ).2 ((hsat σ).2 ⟨hs.1, hs.2.1⟩), hs.2.2⟩
theorem gr0_gw {N : Nat} (h : 0 < N) : GW N gr0 := by
 have hr : ∀ k r, ¬ gr0.R k r := fun k r ⟨d, hd⟩ => by have := hd.lt; exact absurd this (Nat.not_lt_zero _)
 refine ⟨rfl, fun k hk => absurd hk (Nat.not_lt_zero _), fun k r d hd => absurd hd.lt (Nat.not_lt_zero _), ⟨?_, ?_, ?_, ?_⟩, fun v i => ?_, fun r hr' => absurd hr' (hr _ _), fun r hr' => absurd hr' (hr _ _), h, fun k _ => ⟨rfl, rfl⟩⟩
 ·intro i x h; simp [gr0] at h
 ·intro i x h; simp [gr0] at h
 ·intro i x h; simp [gr0] at h
 ·intro i j x y h; simp [gr0] at h
 ·constructor
  ·intro h; cases h
  ·rintro ⟨x, h, _⟩; simp [gr0] at h
theorem gr0_closed : Closed gr0.nodes gr0.R [] := fun i k r x y h => by simp [gr0] at h
theorem gr0_sat (σ : Int -> Tm) : Sat gr0.nodes gr0.R [] σ := ⟨fun k r ⟨d, hd⟩ => absurd hd.lt (Nat.not_lt_zero _), fun p hp => by cases hp⟩
theorem zip_fst : ∀ {a b : List Tm}, a.length = b.length -> (a.zip b).map (·.1) = a ∧ (a.zip b).map (·.2) = b
 | [], [], _ => ⟨rfl, rfl⟩
 | [], _ :: _, h => by cases h
 | _ :: _, [], h => by cases h
 | x :: a, y :: b, h => by
  have := zip_fst (a := a) (b := b) (by simpa using h)
  simp only [List.zip_cons_cons, List.map_cons, this.1, this.2, and_self]
abbrev fN : Nat := 200001
abbrev fF : Nat := 2000000
theorem allF_law {a b : List Tm} (hN : Tm.nodess a + Tm.nodess b ≤ 100000) : ∃ out e, allF fN fF a b = some (out, e) ∧ (if (a.all Tm.right && b.all Tm.right) = true then (if a.length = b.length then Ans (Eqs (a.zip b)) out e else out = [] ∧ e = 9) else out = [] ∧ e = 2) ∧ Rng out := by
 have hfN : fN = 200001 := rfl; have hfF : fF = 2000000 := rfl; unfold allF
 by_cases hr : (a.all Tm.right && b.all Tm.right) = true
 ·simp only [if_pos hr]
  by_cases hl : a.length = b.length
  ·simp only [if_pos hl]; simp only [Bool.and_eq_true] at hr
   have hfm : ∀ p ∈ a.zip b, p.1.form = true ∧ p.2.form = true := fun p hp => by
    have := List.of_mem_zip hp; exact ⟨right_form (List.all_eq_true.1 hr.1 _ this.1), right_form (List.all_eq_true.1 hr.2 _ this.2)⟩
   obtain ⟨z1, z2⟩ := zip_fst hl; obtain ⟨g, bb, q1, q2, q3⟩ := runF_law (N := fN) (f := fF) (a.zip b) gr0 (gr0_gw (by decide)) gr0_closed rfl gr0_ok hfm (by rw [z1, z2]; show 0 + _ < _; omega) (by decide) (by decide)
   rw [q1]
   cases bb with
   | false => exact ⟨[], 13, rfl, .inl ⟨fun σ hs => q3 rfl σ ⟨gr0_sat σ, hs⟩, rfl, rfl⟩, .nil⟩
   | true =>
    obtain ⟨s1, s2, s3, s4, s5⟩ := q2 rfl; have hlim := s1.lim; have hlen := s1.len; obtain ⟨out, e, p1, p2, p3⟩ := solvedF_law (f := fF) s1 s2 s3 s4.nodup (by omega) (by decide)
    refine ⟨out, e, p1, p2.congr fun σ => ?_, p3⟩; rw [s5 σ]; exact ⟨fun h => h.2, fun h => ⟨gr0_sat σ, h⟩⟩
  ·simp only [if_neg hl]; exact ⟨[], 9, rfl, ⟨rfl, rfl⟩, .nil⟩
 ·simp only [if_neg hr]; exact ⟨[], 2, rfl, ⟨rfl, rfl⟩, .nil⟩
end Go.CK
namespace Go.CK
open Go.AM Go.Proofs
theorem same3_ok (a b : Tm) : Fun Try.prog 19 [a.avw, b.avw] (.bool (decide (a.cmp b = 0))) := by
 refine Fun.of (op_constraintref03_Same (by simp) ?_) rfl rfl
 conv => whnf
 conv => whnf
 repeat' ((first | (refine gF ?_; refine CallN.fn (refCompare_ok a b) ?_) | refine RetP.nrm ?_) <;> conv => whnf)
mutual
theorem sz_nodes : ∀ t : Tm, t.sz ≤ t.nodes
 | .mk k n s l => by
  have := szs_nodes l; simp only [Tm.sz, Tm.nodes]; split <;> omega
theorem szs_nodes : ∀ l : List Tm, Tm.szs l ≤ Tm.nodess l
 | [] => Nat.le_refl _
 | t :: r => by
  have := sz_nodes t; have := szs_nodes r; simp only [Tm.szs, Tm.nodess]; omega
end
mutual
theorem dep_nodes : ∀ t : Tm, t.dep ≤ t.nodes
 | .mk k n s l => by
  have := deps_nodes l; simp only [Tm.dep, Tm.nodes]; split <;> omega
theorem deps_nodes : ∀ l : List Tm, Tm.deps l ≤ Tm.nodess l
 | [] => Nat.le_refl _
 | t :: r => by
  have := dep_nodes t; have := deps_nodes r; simp only [Tm.deps, Tm.nodess]; omega
end
set_option maxRecDepth 100000 in
theorem size3_ok (t : Tm) : t.nodes ≤ 1000000 -> Fun Try.prog 36 [t.avw] (.int .i64 (t.sz : Int)) := by
 induction t using Tm.ind_all with
 | h k i s l ih =>
 intro hN; generalize ha : Tm.mk k i s l = t at hN ⊢; replace ih : ∀ x ∈ t.args, x.nodes ≤ 1000000 -> Fun Try.prog 36 [x.avw] (.int .i64 (x.sz : Int)) := by subst ha; exact ih
 have hnl : Tm.nodess t.args + 1 ≤ t.nodes := by subst ha; simp only [Tm.nodes, Tm.args]; omega
 clear ha
 have hsz : t.sz = 1 + Tm.szs t.use := by
  unfold Tm.use
  by_cases h2 : t.kind = 2
  ·rw [if_pos h2, sz_fun h2]
  ·rw [if_neg h2, sz_leaf h2]; rfl
 have huse : ∀ x ∈ t.use, x ∈ t.args := fun x hx => by unfold Tm.use at hx; split at hx; exact hx; cases hx
 have hul : Tm.nodess t.use ≤ Tm.nodess t.args := by unfold Tm.use; split; exact Nat.le_refl _; exact Nat.zero_le _
 have hlen := nodess_len t.use; have hszn := szs_nodes t.use; rw [hsz]; refine Fun.of (op_constraintref03_Size (by simp) ?_) rfl rfl
 conv => whnf
 conv => whnf
 repeat' ((refine gF ?_; refine CallN.fn (refArgs_ok) ?_) <;> conv => whnf)
 refine LoopP.by (fb := true) (fun _ (j : Nat) => ⟨[(3, .int .i64 ((1 + Tm.szs (t.use.take j) : Nat) : Int)), (4, .sl .no (t.use.map Tm.av)), (5, .int .i64 (j : Int))], [], 0⟩) (fun j => j ≤ t.use.length) (fun j => t.use.length - j) 0 (Nat.zero_le _) ?_ ?_
 ·rw [List.take_zero]; refine EndN.lay [] oko ?_
  conv => whnf
  refine EndN.at_ ?_ rfl
  conv => whnf
  refine And.intro ?_ ?_ <;> conv => whnf
  all_goals repeat' ((first | (refine gV ?_; first | refine vE ?_ | refine vI ?_ | (refine WkN.norm ?_ ?_; (focus (simp [AV.norm, AV.norm1, Tm.szs, Tm.deps]; done)))) | exact True.intro) <;> conv => whnf)
 ·rintro j q1
  by_cases hj : j < t.use.length
  ·obtain ⟨x, hx⟩ : ∃ x, t.use[j]? = some x := ⟨_, List.getElem?_eq_getElem hj⟩; have htk : t.use.take (j + 1) = t.use.take j ++ [x] := by rw [List.take_add_one, hx]; rfl
   have hst := szs_take t.use hx; have hm := nodes_mem (List.mem_of_getElem? hx); have hcall := ih x (huse x (List.mem_of_getElem? hx)) (by omega)
   conv => whnf
   repeat' ((first | (refine gF ?_; refine CallN.fn (hcall) ?_) | (refine gC ?_; (refine gD ?_; refine cI ?_)) | (refine gW ?_; refine wI ?_) | (refine gL ?_; refine .map ?_) | (refine gI ?_; (refine gT ?_; refine iA ?_))) <;> conv => whnf)
   refine ⟨j + 1, ⟨hj, by omega⟩, ?_⟩
   rw [htk, szs_snoc]; exact endz
  ·obtain rfl : j = t.use.length := by omega
   rw [List.take_of_length_le (Nat.le_refl _)]
   conv => whnf
   repeat' ((first | (refine gC ?_; (refine gD ?_; refine cJ ?_)) | (refine gL ?_; refine .map ?_) | refine RetP.nrm ?_) <;> conv => whnf)
set_option maxRecDepth 100000 in
theorem depth3_ok (t : Tm) : t.nodes ≤ 1000000 -> Fun Try.prog 37 [t.avw] (.int .i64 (t.dep : Int)) := by
 induction t using Tm.ind_all with
 | h k i s l ih =>
 intro hN; generalize ha : Tm.mk k i s l = t at hN ⊢; replace ih : ∀ x ∈ t.args, x.nodes ≤ 1000000 -> Fun Try.prog 37 [x.avw] (.int .i64 (x.dep : Int)) := by subst ha; exact ih
 have hnl : Tm.nodess t.args + 1 ≤ t.nodes := by subst ha; simp only [Tm.nodes, Tm.args]; omega
 clear ha
 have hsz : t.dep = Tm.deps t.use + 1 := by
  unfold Tm.use
  by_cases h2 : t.kind = 2
  ·rw [if_pos h2, dep_fun h2]
  ·rw [if_neg h2, dep_leaf h2]; rfl
 have huse : ∀ x ∈ t.use, x ∈ t.args := fun x hx => by unfold Tm.use at hx; split at hx; exact hx; cases hx
 have hul : Tm.nodess t.use ≤ Tm.nodess t.args := by unfold Tm.use; split; exact Nat.le_refl _; exact Nat.zero_le _
 have hlen := nodess_len t.use; have hdn : Tm.deps t.use ≤ Tm.nodess t.use := deps_nodes t.use; rw [hsz]; refine Fun.of (op_constraintref03_Depth (by simp) ?_) rfl rfl
 conv => whnf
 conv => whnf
 repeat' ((refine gF ?_; refine CallN.fn (refArgs_ok) ?_) <;> conv => whnf)
 refine LoopP.by (fb := true) (fun _ (j : Nat) => ⟨[(3, .int .i64 ((Tm.deps (t.use.take j) : Nat) : Int)), (4, .sl .no (t.use.map Tm.av)), (5, .int .i64 (j : Int))], [], 0⟩) (fun j => j ≤ t.use.length) (fun j => t.use.length - j) 0 (Nat.zero_le _) ?_ ?_
 ·rw [List.take_zero]; refine EndN.lay [] oko ?_
  conv => whnf
  refine EndN.at_ ?_ rfl
  conv => whnf
  refine And.intro ?_ ?_ <;> conv => whnf
  all_goals repeat' ((first | (refine gV ?_; first | refine vE ?_ | refine vI ?_ | (refine WkN.norm ?_ ?_; (focus (simp [AV.norm, AV.norm1, Tm.szs, Tm.deps]; done)))) | exact True.intro) <;> conv => whnf)
 ·rintro j q1
  by_cases hj : j < t.use.length
  ·obtain ⟨x, hx⟩ : ∃ x, t.use[j]? = some x := ⟨_, List.getElem?_eq_getElem hj⟩; have htk : t.use.take (j + 1) = t.use.take j ++ [x] := by rw [List.take_add_one, hx]; rfl
   have hm := nodes_mem (List.mem_of_getElem? hx); have hcall := ih x (huse x (List.mem_of_getElem? hx)) (by omega)
   conv => whnf
   repeat' ((first | (refine gF ?_; refine CallN.fn (hcall) ?_) | (refine gC ?_; (refine gD ?_; refine cI ?_)) | (refine gW ?_; refine wI ?_) | (refine gL ?_; refine .map ?_) | (refine gI ?_; (refine gT ?_; refine iA ?_))) <;> conv => whnf)
   refine ⟨j + 1, ⟨hj, by omega⟩, ?_⟩
   rw [htk, deps_snoc]; exact endz
  ·obtain rfl : j = t.use.length := by omega
   rw [List.take_of_length_le (Nat.le_refl _)]
   conv => whnf
   repeat' ((first | (refine gC ?_; (refine gD ?_; refine cJ ?_)) | (refine gW ?_; refine wI ?_) | (refine gL ?_; refine .map ?_) | refine RetP.nrm ?_) <;> conv => whnf)
   rfl
theorem forms_false {l : List Tm} {x : Tm} (h : x ∈ l) (hf : x.form = false) : Tm.forms l = false := by
 rw [Bool.eq_false_iff]; intro e; rw [forms_mem e h] at hf; cases hf
set_option maxHeartbeats 1000000 in
set_option maxRecDepth 100000 in
theorem form3_ok (t : Tm) : Fun Try.prog 35 [t.avw] (.bool t.form) := by
 induction t using Tm.ind_all with
 | h k i s l ih =>
 generalize ha : Tm.mk k i s l = t; replace ih : ∀ x ∈ t.args, Fun Try.prog 35 [x.avw] (.bool x.form) := by subst ha; exact ih
 clear ha; refine Fun.assume rfl fun hg0 => ?_; have hg := (good_tm (hg0 t.avw (by simp))).2.1
 by_cases hk2 : t.kind = 2
 ·rw [form_2 hk2]; have hoo := oper2_ok t.name; have hro := right2_ok t.name
  by_cases h3 : t.num = 0
  rotate_left
  ·rw [decide_eq_false (fun e => h3 e.1), Bool.false_and]; cases hop : operB t.name <;> rw [hop] at hoo
   all_goals
    refine Fun.of (op_constraintref03_form (by simp) ?_) rfl rfl
    conv => whnf
    conv => whnf
    repeat' ((first | (refine gF ?_; refine CallN.fn (hoo) ?_) | (refine gC ?_; first | refine cY ?_ | refine cN ?_ | refine .not ?_ | (refine gD ?_; first | refine cI ?_ | refine cJ ?_)) | (refine gL ?_; refine .map ?_) | refine RetP.nrm ?_) <;> conv => whnf)
    try rfl
  by_cases h6 : t.args.length ≤ 6
  ·rw [decide_eq_true (show t.num = 0 ∧ t.args.length ≤ 6 from ⟨h3, h6⟩), Bool.true_and]
   by_cases hol : operB t.name = true ∧ t.args.length = 2
   ·obtain ⟨hop, h2⟩ := hol; rw [hop, decide_eq_true h2, Bool.true_and, Bool.or_true, Bool.true_and]; rw [hop] at hoo; refine Fun.of (op_constraintref03_form (by simp) ?_) rfl rfl
    conv => whnf
    conv => whnf
    repeat' ((first | (refine gF ?_; refine CallN.fn (hoo) ?_) | (refine gC ?_; first | refine cY ?_ | refine cN ?_ | refine .not ?_ | (refine gD ?_; first | refine cI ?_ | refine cJ ?_)) | (refine gL ?_; refine .map ?_)) <;> conv => whnf)
    refine LoopP.by (fb := true) (fun _ (j : Nat) => ⟨[(1, .ptr 0 0), (4, .int .i64 (j : Int))], [.cells [.int .i64 t.kind, .int .i64 t.num, .str t.name, .sl .no (t.args.map Tm.av)]], 0⟩) (fun j => j ≤ t.args.length ∧ Tm.forms (t.args.take j) = true) (fun j => t.args.length - j) 0 ⟨Nat.zero_le _, rfl⟩ ?_ ?_
    ·exact endz
    ·rintro j ⟨q1, q2⟩
     by_cases hj : j < t.args.length
     ·obtain ⟨x, hx⟩ : ∃ x, t.args[j]? = some x := ⟨_, List.getElem?_eq_getElem hj⟩; have htk : t.args.take (j + 1) = t.args.take j ++ [x] := by rw [List.take_add_one, hx]; rfl
      have hcall := ih x (List.mem_of_getElem? hx)
      cases hxf : x.form with
      | false =>
       rw [hxf] at hcall
       conv => whnf
       repeat' ((first | (refine gF ?_; refine CallN.fn (hcall) ?_) | (refine gC ?_; first | refine cN ?_ | refine .not ?_ | (refine gD ?_; refine cI ?_)) | (refine gL ?_; refine .map ?_) | (refine gI ?_; (refine gT ?_; refine iA ?_)) | refine RetP.nrm ?_) <;> conv => whnf)
       exact congrArg AV.bool (forms_false (List.mem_of_getElem? hx) hxf).symm
      | true =>
       rw [hxf] at hcall
       conv => whnf
       repeat' ((first | (refine gF ?_; refine CallN.fn (hcall) ?_) | (refine gC ?_; first | refine cY ?_ | refine .not ?_ | (refine gD ?_; refine cI ?_)) | (refine gW ?_; refine wI ?_) | (refine gL ?_; refine .map ?_) | (refine gI ?_; (refine gT ?_; refine iA ?_))) <;> conv => whnf)
       refine ⟨j + 1, ⟨⟨hj, by rw [htk, forms_snoc, q2, hxf]; rfl⟩, by omega⟩, ?_⟩
       exact endz
     ·obtain rfl : j = t.args.length := by omega
      rw [List.take_of_length_le (Nat.le_refl _)] at q2
      conv => whnf
      repeat' ((first | (refine gC ?_; (refine gD ?_; refine cJ ?_)) | (refine gL ?_; refine .map ?_) | refine RetP.nrm ?_) <;> conv => whnf)
      exact congrArg AV.bool q2.symm
   ·have hob : (operB t.name && decide (t.args.length = 2)) = false := by
     rw [Bool.eq_false_iff]; intro e; rw [Bool.and_eq_true, decide_eq_true_eq] at e; exact hol e
    rw [hob, Bool.or_false]
    cases hnr : nameR t.name with
    | false =>
     rw [hnr] at hro; rw [Bool.false_and]
     cases hop : operB t.name with
     | false =>
      rw [hop] at hoo; refine Fun.of (op_constraintref03_form (by simp) ?_) rfl rfl
      conv => whnf
      conv => whnf
      repeat' ((first | (refine gF ?_; first | refine CallN.fn (hoo) ?_ | refine CallN.fn (hro) ?_) | (refine gC ?_; first | refine cY ?_ | refine cN ?_ | refine .not ?_ | (refine gD ?_; first | refine cI ?_ | refine cJ ?_)) | refine RetP.nrm ?_) <;> conv => whnf)
     | true =>
      rw [hop] at hoo; have h2 : ¬ t.args.length = 2 := fun e => hol ⟨hop, e⟩; refine Fun.of (op_constraintref03_form (by simp) ?_) rfl rfl
      conv => whnf
      conv => whnf
      repeat' ((first | (refine gF ?_; first | refine CallN.fn (hoo) ?_ | refine CallN.fn (hro) ?_) | (refine gC ?_; first | refine cY ?_ | refine cN ?_ | refine .not ?_ | (refine gD ?_; first | refine cI ?_ | refine cJ ?_)) | (refine gL ?_; refine .map ?_) | refine RetP.nrm ?_) <;> conv => whnf)
    | true =>
     rw [hnr] at hro; rw [Bool.true_and]
     cases hop : operB t.name with
     | false =>
      rw [hop] at hoo; refine Fun.of (op_constraintref03_form (by simp) ?_) rfl rfl
      conv => whnf
      conv => whnf
      repeat' ((first | (refine gF ?_; first | refine CallN.fn (hoo) ?_ | refine CallN.fn (hro) ?_) | (refine gC ?_; first | refine cY ?_ | refine cN ?_ | refine .not ?_ | (refine gD ?_; first | refine cI ?_ | refine cJ ?_)) | (refine gL ?_; refine .map ?_)) <;> conv => whnf)
      refine LoopP.by (fb := true) (fun _ (j : Nat) => ⟨[(1, .ptr 0 0), (4, .int .i64 (j : Int))], [.cells [.int .i64 t.kind, .int .i64 t.num, .str t.name, .sl .no (t.args.map Tm.av)]], 0⟩) (fun j => j ≤ t.args.length ∧ Tm.forms (t.args.take j) = true) (fun j => t.args.length - j) 0 ⟨Nat.zero_le _, rfl⟩ ?_ ?_
      ·exact endz
      ·rintro j ⟨q1, q2⟩
       by_cases hj : j < t.args.length
       ·obtain ⟨x, hx⟩ : ∃ x, t.args[j]? = some x := ⟨_, List.getElem?_eq_getElem hj⟩; have htk : t.args.take (j + 1) = t.args.take j ++ [x] := by rw [List.take_add_one, hx]; rfl
        have hcall := ih x (List.mem_of_getElem? hx)
        cases hxf : x.form with
        | false =>
         rw [hxf] at hcall
         conv => whnf
         repeat' ((first | (refine gF ?_; refine CallN.fn (hcall) ?_) | (refine gC ?_; first | refine cN ?_ | refine .not ?_ | (refine gD ?_; refine cI ?_)) | (refine gL ?_; refine .map ?_) | (refine gI ?_; (refine gT ?_; refine iA ?_)) | refine RetP.nrm ?_) <;> conv => whnf)
         exact congrArg AV.bool (forms_false (List.mem_of_getElem? hx) hxf).symm
        | true =>
         rw [hxf] at hcall
         conv => whnf
         repeat' ((first | (refine gF ?_; refine CallN.fn (hcall) ?_) | (refine gC ?_; first | refine cY ?_ | refine .not ?_ | (refine gD ?_; refine cI ?_)) | (refine gW ?_; refine wI ?_) | (refine gL ?_; refine .map ?_) | (refine gI ?_; (refine gT ?_; refine iA ?_))) <;> conv => whnf)
         refine ⟨j + 1, ⟨⟨hj, by rw [htk, forms_snoc, q2, hxf]; rfl⟩, by omega⟩, ?_⟩
         exact endz
       ·obtain rfl : j = t.args.length := by omega
        rw [List.take_of_length_le (Nat.le_refl _)] at q2
        conv => whnf
        repeat' ((first | (refine gC ?_; (refine gD ?_; refine cJ ?_)) | (refine gL ?_; refine .map ?_) | refine RetP.nrm ?_) <;> conv => whnf)
        exact congrArg AV.bool q2.symm
     | true =>
      rw [hop] at hoo; have h2 : ¬ t.args.length = 2 := fun e => hol ⟨hop, e⟩; refine Fun.of (op_constraintref03_form (by simp) ?_) rfl rfl
      conv => whnf
      conv => whnf
      repeat' ((first | (refine gF ?_; first | refine CallN.fn (hoo) ?_ | refine CallN.fn (hro) ?_) | (refine gC ?_; first | refine cY ?_ | refine .not ?_ | (refine gD ?_; first | refine cI ?_ | refine cJ ?_)) | (refine gL ?_; refine .map ?_)) <;> conv => whnf)
      refine LoopP.by (fb := true) (fun _ (j : Nat) => ⟨[(1, .ptr 0 0), (4, .int .i64 (j : Int))], [.cells [.int .i64 t.kind, .int .i64 t.num, .str t.name, .sl .no (t.args.map Tm.av)]], 0⟩) (fun j => j ≤ t.args.length ∧ Tm.forms (t.args.take j) = true) (fun j => t.args.length - j) 0 ⟨Nat.zero_le _, rfl⟩ ?_ ?_
      ·exact endz
      ·rintro j ⟨q1, q2⟩
       by_cases hj : j < t.args.length
       ·obtain ⟨x, hx⟩ : ∃ x, t.args[j]? = some x := ⟨_, List.getElem?_eq_getElem hj⟩; have htk : t.args.take (j + 1) = t.args.take j ++ [x] := by rw [List.take_add_one, hx]; rfl
        have hcall := ih x (List.mem_of_getElem? hx)
        cases hxf : x.form with
        | false =>
         rw [hxf] at hcall
         conv => whnf
         repeat' ((first | (refine gF ?_; refine CallN.fn (hcall) ?_) | (refine gC ?_; first | refine cN ?_ | refine .not ?_ | (refine gD ?_; refine cI ?_)) | (refine gL ?_; refine .map ?_) | (refine gI ?_; (refine gT ?_; refine iA ?_)) | refine RetP.nrm ?_) <;> conv => whnf)
         exact congrArg AV.bool (forms_false (List.mem_of_getElem? hx) hxf).symm
        | true =>
         rw [hxf] at hcall
         conv => whnf
         repeat' ((first | (refine gF ?_; refine CallN.fn (hcall) ?_) | (refine gC ?_; first | refine cY ?_ | refine .not ?_ | (refine gD ?_; refine cI ?_)) | (refine gW ?_; refine wI ?_) | (refine gL ?_; refine .map ?_) | (refine gI ?_; (refine gT ?_; refine iA ?_))) <;> conv => whnf)
         refine ⟨j + 1, ⟨⟨hj, by rw [htk, forms_snoc, q2, hxf]; rfl⟩, by omega⟩, ?_⟩
         exact endz
       ·obtain rfl : j = t.args.length := by omega
        rw [List.take_of_length_le (Nat.le_refl _)] at q2
        conv => whnf
        repeat' ((first | (refine gC ?_; (refine gD ?_; refine cJ ?_)) | (refine gL ?_; refine .map ?_) | refine RetP.nrm ?_) <;> conv => whnf)
        exact congrArg AV.bool q2.symm
  ·rw [decide_eq_false (fun e => h6 e.2), Bool.false_and]; have h2 : ¬ t.args.length = 2 := by omega
   cases hnr : nameR t.name <;> rw [hnr] at hro <;> cases hop : operB t.name <;> rw [hop] at hoo
   all_goals
    refine Fun.of (op_constraintref03_form (by simp) ?_) rfl rfl
    conv => whnf
    conv => whnf
    repeat' ((first | (refine gF ?_; first | refine CallN.fn (hoo) ?_ | refine CallN.fn (hro) ?_) | (refine gC ?_; first | refine cY ?_ | refine cN ?_ | refine .not ?_ | (refine gD ?_; first | refine cI ?_ | refine cJ ?_)) | (refine gL ?_; refine .map ?_) | refine RetP.nrm ?_) <;> conv => whnf)
    try rfl
 ·by_cases hk0 : t.kind = 0
  ·rw [form_0 hk0]; refine Fun.of (op_constraintref03_form (by simp) ?_) rfl rfl
   conv => whnf
   conv => whnf
   repeat' ((first | (refine gC ?_; first | refine cN ?_ | (refine gD ?_; first | refine cI ?_ | refine cJ ?_) | refine CondN.le (fun hc => ?_) (fun hc => ?_) | refine CondN.dec (fun hc => ?_) (fun hc => ?_)) | (refine gL ?_; refine .map ?_) | refine RetP.nrm ?_) <;> conv => whnf)
   all_goals
    refine congrArg AV.bool ?_; symm
    first
     | (rw [decide_eq_decide]; exact ⟨fun h => by omega, fun h => ⟨by omega, by omega, by assumption, by omega⟩⟩)
     | (rw [decide_eq_decide]; exact ⟨fun ⟨_, _, _, h⟩ => by omega, fun h => ⟨by omega, by omega, by assumption, by omega⟩⟩)
     | (rw [decide_eq_false_iff_not]; rintro ⟨e1, e2, e3, e4⟩; first | omega | contradiction)
     | (rw [decide_eq_true_iff]; exact ⟨by omega, by omega, by assumption, by omega⟩)
  ·by_cases hk1 : t.kind = 1
   ·rw [form_1 hk1]; refine Fun.of (op_constraintref03_form (by simp) ?_) rfl rfl
    conv => whnf
    conv => whnf
    repeat' ((first | (refine gC ?_; first | refine cN ?_ | (refine gD ?_; first | refine cI ?_ | refine cJ ?_) | refine CondN.le (fun hc => ?_) (fun hc => ?_) | refine CondN.dec (fun hc => ?_) (fun hc => ?_)) | (refine gL ?_; refine .map ?_) | refine RetP.nrm ?_) <;> conv => whnf)
    all_goals
     refine congrArg AV.bool ?_; symm
     first
      | (rw [decide_eq_decide]; exact ⟨fun h => by omega, fun h => ⟨by omega, by omega, by assumption, by omega⟩⟩)
      | (rw [decide_eq_decide]; exact ⟨fun ⟨_, _, _, h⟩ => by omega, fun h => ⟨by omega, by omega, by assumption, by omega⟩⟩)
      | (rw [decide_eq_false_iff_not]; rintro ⟨e1, e2, e3, e4⟩; first | omega | contradiction)
      | (rw [decide_eq_true_iff]; exact ⟨by omega, by omega, by assumption, by omega⟩)
   ·rw [form_3 hk0 hk1 hk2]; refine Fun.of (op_constraintref03_form (by simp) ?_) rfl rfl
    conv => whnf
    conv => whnf
    repeat' ((first | (refine gC ?_; (refine gD ?_; refine cJ ?_)) | refine RetP.nrm ?_) <;> conv => whnf)
theorem right3_ok (t : Tm) (hN : t.nodes ≤ 1000000) : Fun Try.prog 21 [t.avw] (.bool t.right) := by
 have h1 := form3_ok t; have h2 := size3_ok t hN; have h3 := depth3_ok t hN
 have he : t.right = (t.form && (decide ((t.sz : Int) ≤ 200) && decide ((t.dep : Int) ≤ 20))) := by
  unfold Tm.right vB; rw [Bool.decide_and]
 rw [he]; cases hf : t.form <;> rw [hf] at h1
 all_goals
  refine Fun.of (op_constraintref03_Right (by simp) ?_) rfl rfl
  conv => whnf
  conv => whnf
  repeat' ((first | (refine gF ?_; first | refine CallN.fn (h1) ?_ | refine CallN.fn (h2) ?_ | refine CallN.fn (h3) ?_) | (refine gC ?_; first | refine cY ?_ | refine cN ?_ | (refine gD ?_; first | refine cI ?_ | refine cJ ?_) | refine CondN.le (fun hc => ?_) (fun hc => ?_)) | refine RetP.nrm ?_) <;> conv => whnf)
  all_goals (first | rfl | (refine congrArg AV.bool ?_; first | (simp [*]; done) | (simp [*]; omega)))
end Go.CK
namespace Go.CK
open Go.AM Go.Proofs
def sameB : List Bnd -> List Bnd -> Bool
 | [], [] => true
 | x :: l, y :: m => decide (x.v = y.v) && (decide (x.t.cmp y.t = 0) && sameB l m)
 | _, _ => false
theorem sameB_len : ∀ {l m : List Bnd}, ¬ l.length = m.length -> sameB l m = false
 | [], [], h => absurd rfl h
 | [], _ :: _, _ => rfl
 | _ :: _, [], _ => rfl
 | x :: l, y :: m, h => by
  have := sameB_len (l := l) (m := m) (by simpa using h)
  simp only [sameB, this, Bool.and_false]
theorem sameB_refl : ∀ l : List Bnd, sameB l l = true
 | [] => rfl
 | x :: l => by simp only [sameB, Tm.cmp_refl, sameB_refl l, decide_true, Bool.and_self]
set_option maxRecDepth 100000 in
theorem same6_ok (l m : List Bnd) : Fun Try.prog 12 [.sl .no (l.map Bnd.av), .sl .no (m.map Bnd.av)] (.bool (sameB l m)) := by
 refine Fun.of (Sem.assume fun hg0 _ => ?_) rfl rfl; have hg := (good_sla (hg0 (.sl .no (l.map Bnd.av)) (by simp) rfl)).1
 by_cases hlm : l.length = m.length
 rotate_left
 ·rw [sameB_len hlm]; refine op_constraintref06_Same (by simp) ?_
  conv => whnf
  repeat' ((first | (refine gC ?_; first | refine .not ?_ | (refine gD ?_; refine cJ ?_)) | (refine gL ?_; refine .map ?_) | refine RetP.nrm ?_) <;> conv => whnf)
 refine op_constraintref06_Same (by simp) ?_
 conv => whnf
 repeat' ((first | (refine gC ?_; first | refine .not ?_ | (refine gD ?_; refine cI ?_)) | (refine gL ?_; refine .map ?_)) <;> conv => whnf)
 refine LoopP.by (fb := true) (fun _ (j : Nat) => ⟨[(0, .sl .no (l.map Bnd.av)), (1, .sl .no (m.map Bnd.av)), (5, .int .i64 (j : Int))], [], 0⟩) (fun j => j ≤ l.length ∧ sameB (l.drop j) (m.drop j) = sameB l m) (fun j => l.length - j) 0 ⟨Nat.zero_le _, rfl⟩ ?_ ?_
 ·exact endz
 ·rintro j ⟨q1, q2⟩
  by_cases hj : j < l.length
  ·obtain ⟨x, hx⟩ : ∃ x, l[j]? = some x := ⟨_, List.getElem?_eq_getElem hj⟩; obtain ⟨y, hy⟩ : ∃ x, m[j]? = some x := ⟨_, List.getElem?_eq_getElem (by omega)⟩
   rw [List.drop_eq_getElem_cons hj, (List.getElem?_eq_some_iff.1 hx).2, List.drop_eq_getElem_cons (l := m) (i := j) (by omega), (List.getElem?_eq_some_iff.1 hy).2, sameB] at q2
   have hs := same3_ok x.t y.t
   by_cases hv : x.v = y.v
   ·by_cases hc : x.t.cmp y.t = 0
    ·rw [decide_eq_true hv, decide_eq_true hc, Bool.true_and, Bool.true_and] at q2; rw [decide_eq_true hc] at hs
     conv => whnf
     repeat' ((first | (refine gG ?_; refine CallP.fn (hs) ?_) | (refine gC ?_; first | refine cY ?_ | refine .not ?_ | (refine gD ?_; refine cI ?_)) | (refine gW ?_; refine wI ?_) | (refine gL ?_; refine .map ?_) | (refine gI ?_; (refine gM ?_; refine iE ?_))) <;> conv => whnf)
     refine ⟨j + 1, ⟨⟨hj, q2⟩, by omega⟩, ?_⟩
     exact endz
    ·rw [decide_eq_false hc, Bool.false_and, Bool.and_false] at q2; rw [decide_eq_false hc] at hs; rw [← q2]
     conv => whnf
     repeat' ((first | (refine gG ?_; refine CallP.fn (hs) ?_) | (refine gC ?_; first | refine cN ?_ | refine .not ?_ | (refine gD ?_; refine cI ?_)) | (refine gL ?_; refine .map ?_) | (refine gI ?_; (refine gM ?_; refine iE ?_)) | refine RetP.nrm ?_) <;> conv => whnf)
   ·rw [decide_eq_false hv, Bool.false_and] at q2; rw [← q2]
    conv => whnf
    repeat' ((first | (refine gC ?_; first | refine cY ?_ | refine .not ?_ | (refine gD ?_; first | refine cI ?_ | refine cJ ?_)) | (refine gL ?_; refine .map ?_) | (refine gI ?_; (refine gM ?_; refine iE ?_)) | refine RetP.nrm ?_) <;> conv => whnf)
  ·obtain rfl : j = l.length := by omega
   rw [List.drop_length, List.drop_of_length_le (by omega), sameB] at q2
   rw [← q2]
   conv => whnf
   repeat' ((first | (refine gC ?_; first | refine cN ?_ | (refine gD ?_; refine cJ ?_)) | (refine gL ?_; refine .map ?_) | refine RetP.nrm ?_) <;> conv => whnf)
end Go.CK
namespace Go.CK
open Go.AM Go.Proofs
def insI (x : Int) : List Int -> List Int
 | [] => [x]
 | y :: l => if x ≤ y then x :: y :: l else y :: insI x l
def isort : List Int -> List Int
 | [] => []
 | x :: l => insI x (isort l)
theorem insI_perm (x : Int) : ∀ l : List Int, (insI x l).Perm (x :: l)
 | [] => .refl _
 | y :: l => by
  unfold insI; split
  ·exact .refl _
  ·exact ((insI_perm x l).cons y).trans (.swap x y l)
theorem insI_le (x : Int) : ∀ l : List Int, l.Pairwise (· ≤ ·) -> (insI x l).Pairwise (· ≤ ·)
 | [], _ => List.pairwise_singleton ..
 | y :: l, h => by
  rw [List.pairwise_cons] at h; unfold insI; split
  ·rename_i hxy; rw [List.pairwise_cons]; refine ⟨fun z hz => ?_, List.pairwise_cons.2 h⟩; rcases List.mem_cons.1 hz with rfl | hz
   ·exact hxy
   ·have := h.1 z hz; omega
  ·rename_i hxy; rw [List.pairwise_cons]; refine ⟨fun z hz => ?_, insI_le x l h.2⟩; rcases List.mem_cons.1 ((insI_perm x l).mem_iff.1 hz) with rfl | hz
   ·omega
   ·exact h.1 z hz
theorem isort_perm : ∀ l : List Int, (isort l).Perm l
 | [] => .refl _
 | x :: l => (insI_perm x _).trans ((isort_perm l).cons x)
theorem isort_le : ∀ l : List Int, (isort l).Pairwise (· ≤ ·)
 | [] => .nil
 | x :: l => insI_le x _ (isort_le l)
theorem sortL_isort (l : List Int) : sortL l = isort l :=
 List.Perm.eq_of_pairwise (fun a b _ _ h1 h2 => by omega) (sortL_le l) (isort_le l) ((sortL_perm l).trans (isort_perm l).symm)
def solvedI (N f : Nat) (g : Gr) : Option (List Bnd × Int) := match roundM N f (List.range g.nodes.length) g with
 | none => none
 | some (_, false) => some ([], 13)
 | some (g2, true) => match roundS N f (isort (g2.vars.map (·.1))) g2 [] with
  | none => none
  | some (_, none) => some ([], 6)
  | some (_, some out) => some (out, 0)
def allI (N f : Nat) (a b : List Tm) : Option (List Bnd × Int) :=
 if (a.all Tm.right && b.all Tm.right) = true then
  if a.length = b.length then match runF N f gr0 (a.zip b) with
   | none => none
   | some (_, false) => some ([], 13)
   | some (g, true) => solvedI N f g
  else some ([], 9)
 else some ([], 2)
theorem allF_I (N f : Nat) (a b : List Tm) : allF N f a b = allI N f a b := by
 have : solvedF N f = solvedI N f := by
  funext g; unfold solvedF solvedI
  simp only [sortL_isort]; rfl
 unfold allF allI; rw [this]; rfl
def gTerm : Tm := .mk 2 0 ⟨⟨[103]⟩⟩ [varT 0]
def fTerm (a b : Tm) : Tm := .mk 2 0 ⟨⟨[102]⟩⟩ [a, b]
theorem ex1 : allI 10 100 [fTerm (varT 2) (varT 1)] [fTerm (varT 1) gTerm] = some ([⟨1, gTerm⟩, ⟨2, gTerm⟩], 0) := by kernel_rfl
theorem ex2 : allI 10 100 [varT 3, varT 3] [varT 1, varT 2] = some ([⟨2, varT 1⟩, ⟨3, varT 1⟩], 0) := by kernel_rfl
theorem ex3 : allI 10 100 [varT 0] [gTerm] = some ([], 13) := by kernel_rfl
theorem ex4 : allI 10 100 [varT 0] [varT 1] = some ([⟨1, varT 0⟩], 0) := by kernel_rfl
theorem v7_ok (n : Int) : Fun Try.prog 22 [.int .i64 n] (varT n).avw := by
 refine Fun.of (op_constraintlaw07_v (by simp) ?_) rfl rfl
 conv => whnf
 conv => whnf
 repeat' (refine RetP.nrm ?_ <;> conv => whnf)
 exact rfl
set_option maxRecDepth 100000 in
theorem f7_ok (a b : Tm) : Fun Try.prog 24 [a.avw, b.avw] (fTerm a b).avw := by
 refine Fun.of (op_constraintlaw07_f (by simp) ?_) rfl rfl
 conv => whnf
 conv => whnf
 repeat' (refine RetP.nrm ?_ <;> conv => whnf)
 simp only [fTerm, Tm.avw, Tm.kind, Tm.num, Tm.name, Tm.args, List.map_cons, List.map_nil, Tm.av_w]
set_option maxHeartbeats 4000000 in
set_option maxRecDepth 100000 in
theorem awake_ok : Fun Try.prog 9 [] (.bool true) := by
 have u1 := Unify_ok ((allF_I _ _ _ _).trans ex1) (by decide)
 have u2 := all_ok ((allF_I _ _ _ _).trans ex2) (by decide)
 have u3 := Unify_ok ((allF_I _ _ _ _).trans ex3) (by decide)
 have u4 := Unifiable_ok ((allF_I _ _ _ _).trans ex4) (by decide)
 have u5 := Unifiable_ok ((allF_I _ _ _ _).trans ex3) (by decide)
 rw [show unifiableB 0 = true from rfl] at u4; rw [show unifiableB 13 = false from rfl] at u5; have s1 := same6_ok [⟨1, gTerm⟩, ⟨2, gTerm⟩] [⟨1, gTerm⟩, ⟨2, gTerm⟩]; have s2 := same6_ok [⟨2, varT 1⟩, ⟨3, varT 1⟩] [⟨2, varT 1⟩, ⟨3, varT 1⟩]; rw [sameB_refl] at s1 s2; have f1 := f7_ok (varT 2) (varT 1); have f2 := f7_ok (varT 1) gTerm; refine Fun.of (op_constraintlaw07_awake (by simp) ?_) rfl rfl
 conv => whnf
 conv => whnf
 repeat' ((first | (refine gF ?_; first | refine CallN.fn (v7_ok _) ?_ | refine CallN.fn (u2) ?_) | (refine gG ?_; first | refine CallP.fn (v7_ok _) ?_ | refine CallP.fn (f1) ?_ | refine CallP.fn (f2) ?_ | refine CallP.fn (u1) ?_ | refine CallP.fn (u3) ?_ | refine CallP.fn (u4) ?_ | refine CallP.fn (u5) ?_ | refine CallP.fn (s1) ?_ | refine CallP.fn (s2) ?_) | (refine gC ?_; first | refine cY ?_ | (refine gD ?_; refine cI ?_)) | refine RetP.nrm ?_) <;> conv => whnf)
 rfl
end Go.CK
namespace Go.CK
open Go.AM
mutual
theorem lft_nodes : ∀ (t : Tm) (n d : Int), 0 ≤ lft t n d -> lft t n d = n - t.nodes
 | .mk k m s l, n, d, h => by
  rw [lft] at h ⊢; split at h
  ·omega
  ·rename_i hc; rw [if_neg hc, lfts_nodes l _ _ h]; simp only [Tm.nodes]; omega
theorem lfts_nodes : ∀ (l : List Tm) (n d : Int), 0 ≤ lfts l n d -> lfts l n d = n - Tm.nodess l
 | [], n, d, h => by simp [lfts, Tm.nodess]
 | t :: r, n, d, h => by
  rw [lfts] at h ⊢; split at h
  ·omega
  ·rename_i hc; rw [if_neg hc, lfts_nodes r _ _ h, lft_nodes t n d (by omega)]
   simp only [Tm.nodess]; omega
end
theorem small_nodes {t : Tm} (h : t.small = true) : t.nodes ≤ 1000 := by
 unfold Tm.small at h; have h := of_decide_eq_true h; have := lft_nodes t 1000 100 h; omega
end Go.CK
namespace Go.CK
open Go.AM
end Go.CK
