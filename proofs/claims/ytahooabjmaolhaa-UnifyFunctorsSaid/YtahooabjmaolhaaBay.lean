/-
  Texts of this claim joined (wip/gen/bundle.py), those declarations only that are needed: UnF UnN UnP. By an AI agent.
-/
import Derived.Test.YtahooabjmaolhaaBax
import Derived.BigQuiet
import Derived.StillTailTactics
import Derived.Deep.RegionHeld3
import Derived.KernelRfl
import Derived.Lib.SpaceUEq
set_option linter.unusedSimpArgs false
set_option linter.unusedVariables false
namespace Go.CK
open Go.AM Go.Proofs
theorem mpE_fst {β : Type} {enc : β → AV} {l : List (Int × β)} : (mpE enc l).map (·.1) = l.map (·.1) := by
  rw [mpE, List.map_map]; rfl
/-- a binding -/
structure Bnd where
  v : Int
  t : Tm
def Bnd.av (x : Bnd) : AV := .agg [.int .i64 x.v, .int .i64 x.t.kind, .int .i64 x.t.num, .str x.t.name, .sl .no (x.t.args.map Tm.av)]
def roundM (N f : Nat) : List Nat → Gr → Option (Gr × Bool)
  | [], g => some (g, true)
  | k :: ks, g => match rootF N g.up k with
    | none => none
    | some (u, r) => match measF N f { g with up := u } [] r with
      | none => none
      | some (g2, none) => some (g2, false)
      | some (g2, some _) => roundM N f ks g2
def roundS (N f : Nat) : List Int → Gr → List Bnd → Option (Gr × Option (List Bnd))
  | [], g, out => some (g, some out)
  | v :: vs, g, out => match lk g.vars v with
    | none => none
    | some k => match rootF N g.up k with
      | none => none
      | some (u, r) => if lk g.shape r = none ∧ lkD g.least r = v then roundS N f vs { g with up := u } out else
        match lk g.known r with
        | none => none
        | some m => if 200 < m.1 ∨ 20 < m.2 then some ({ g with up := u }, none) else
          match expF N f { g with up := u } r with
          | none => none
          | some (g2, t) => if g2.up.length = g.up.length then roundS N f vs g2 (out ++ [⟨v, t⟩]) else none
/-- the solved form, or why there is none -/
def solvedF (N f : Nat) (g : Gr) : Option (List Bnd × Int) := match roundM N f (List.range g.nodes.length) g with
  | none => none
  | some (_, false) => some ([], 13)
  | some (g2, true) => match roundS N f (sortL (g2.vars.map (·.1))) g2 [] with
    | none => none
    | some (_, none) => some ([], 6)
    | some (_, some out) => some (out, 0)
/-- the parents alone, and what is known, may turn -/
structure Keep (g g2 : Gr) : Prop where
  nodes : g2.nodes = g.nodes
  vars : g2.vars = g.vars
  shape : g2.shape = g.shape
  least : g2.least = g.least
  up : g2.up.length = g.up.length
theorem Keep.refl (g : Gr) : Keep g g := ⟨rfl, rfl, rfl, rfl, rfl⟩
theorem Keep.trans {a b c : Gr} (h : Keep a b) (k : Keep b c) : Keep a c := ⟨k.nodes.trans h.nodes, k.vars.trans h.vars, k.shape.trans h.shape, k.least.trans h.least, k.up.trans h.up⟩
theorem Keep.root {N : Nat} {g : Gr} {k r : Nat} {u : List Nat} (h : rootF N g.up k = some (u, r)) : Keep g { g with up := u } := ⟨rfl, rfl, rfl, rfl, rootF_len h⟩
theorem measL_keep {N : Nat} {M : Gr → Nat → Option (Gr × Option (Int × Int))} (hM : ∀ {g x g2 m}, M g x = some (g2, m) → Keep g g2) : ∀ {xs : List Nat} {g : Gr} {m : Int × Int} {g2 r}, measL N M g xs m = some (g2, r) → Keep g g2
  | [], g, m, g2, r, h => by cases h; exact .refl _
  | x :: xs, g, m, g2, r, h => by
    rw [measL] at h
    split at h
    · cases h
    · rename_i u r' hr
      split at h
      · cases h
      · rename_i g3 h3
        cases h
        exact (Keep.root hr).trans (hM h3)
      · rename_i g3 c h3
        split at h
        · exact ((Keep.root hr).trans (hM h3)).trans (measL_keep hM h)
        · cases h
theorem measF_keep {N : Nat} : ∀ {f : Nat} {g : Gr} {busy : List Int} {r : Nat} {g2 m}, measF N f g busy r = some (g2, m) → Keep g g2
  | 0, g, busy, r, g2, m, h => by cases h
  | f + 1, g, busy, r, g2, m, h => by
    rw [measF] at h
    split at h
    · cases h; exact .refl _
    · split at h
      · cases h; exact .refl _
      · split at h
        · cases h; exact ⟨rfl, rfl, rfl, rfl, rfl⟩
        · split at h
          · cases h
          · split at h
            rotate_left
            · cases h
            split at h
            · cases h
            · rename_i h2
              cases h
              exact measL_keep (M := fun g x => measF N f g (busy ++ [(r : Int)]) x) (fun {g x g2 m} h => measF_keep (f := f) h) h2
            · rename_i h2
              cases h
              have h3 := measL_keep (M := fun g x => measF N f g (busy ++ [(r : Int)]) x) (fun {g x g2 m} h => measF_keep (f := f) h) h2
              exact ⟨h3.1, h3.2, h3.3, h3.4, h3.5⟩
set_option maxHeartbeats 4000000 in
set_option maxRecDepth 100000 in
theorem solved_ok {N f : Nat} {g : Gr} {cap : Nat} {out : List Bnd} {e : Int} (h : solvedF N f g = some (out, e)) (hcap : g.up.length ≤ cap) (hn : g.nodes.length ≤ 4000000000) (hv1 : g.vars.length ≤ 100000) (hv2 : (g.vars.map (·.1)).Nodup) (hv3 : ∀ e ∈ g.vars, IntOk e.1) : AM.Sem Try.prog 29 [.ptr 0 0] (g.bs cap) fun r bs' => r = .tup [.sl .no (out.map Bnd.av), .int .i64 e] ∧ ∃ g2 : Gr, bs' = g2.bs cap := by
  refine op_p_unify_graph_solved (by simp) ?_
  rw [solvedF] at h
  cases hM : roundM N f (List.range g.nodes.length) g with
  | none => rw [hM] at h; cases h
  | some gb =>
    obtain ⟨gm, bm⟩ := gb
    rw [hM] at h
    conv => whnf
    repeat' ((refine gL ?_; refine .map ?_) <;> conv => whnf)
    refine LoopP.by (fb := true) (fun _ (q : Nat × Gr × Nat) => ⟨[(0, .ptr 0 0), (4, .mpt 6), (20, .int .i64 (g.nodes.length : Int)), (21, .int .i64 (q.1 : Int))], q.2.1.bs cap ++ [.mq (qB []) q.2.2], 6⟩) (fun q => q.1 ≤ g.nodes.length ∧ roundM N f ((List.range g.nodes.length).drop q.1) q.2.1 = some (gm, bm) ∧ Keep g q.2.1) (fun q => g.nodes.length - q.1) (0, g, 0) ⟨Nat.zero_le _, hM, .refl _⟩ ?_ ?_
    · refine EndN.toMq 6 rfl ?_
      refine EndN.at_ ?_ rfl
      conv => whnf
      refine And.intro ?_ ?_ <;> conv => whnf
      all_goals repeat' ((first | (refine gV ?_; first | refine vE ?_ | refine vI ?_) | (refine gX ?_; refine xB ?_) | exact True.intro) <;> conv => whnf)
      refine .mk rfl (.mk rfl ?_)
      conv => whnf
      repeat' (exact True.intro <;> conv => whnf)
    · rintro ⟨j, gj, cj⟩ ⟨q1, q2, q3⟩
      dsimp only at q1 q2 q3 ⊢
      have hup := q3.up
      by_cases hj : j < g.nodes.length
      · rw [List.drop_eq_getElem_cons (by rw [List.length_range]; exact hj), List.getElem_range, roundM] at q2
        cases hr : rootF N gj.up j with
        | none => rw [hr] at q2; cases q2
        | some ur =>
          obtain ⟨u, r'⟩ := ur
          rw [hr] at q2
          simp only at q2
          have hul := rootF_len hr
          cases hm : measF N f { gj with up := u } [] r' with
          | none => rw [hm] at q2; cases q2
          | some gm4 =>
            obtain ⟨g4, m4⟩ := gm4
            rw [hm] at q2
            conv => whnf
            repeat' ((refine gC ?_; (refine gD ?_; refine cI ?_)) <;> conv => whnf)
            refine CallN.at [0, 1, 2, 3, 4, 5] (root_ok hr (by omega)) rfl rfl ?_ (by repeat' (first | exact rfl | exact atB_row plainN _ _ | exact atB_row plainPr _ _ | exact atB_row plainTmA _ _ | refine okO_cons ?_ ?_ | refine okO_none ?_ | refine allB_cons ?_ ?_)) ?_
            · rintro r bs' ⟨rfl, rfl⟩; exact ⟨rfl, rfl, (by repeat' (first | exact rfl | exact atB_row plainN _ _ | exact atB_row plainPr _ _ | exact atB_row plainTmA _ _ | refine okO_cons ?_ ?_ | refine okO_none ?_ | refine allB_cons ?_ ?_))⟩
            rintro r bs' ⟨rfl, rfl⟩
            conv => whnf
            skip
            have hcall := measured_ok (N := N) f (g := { gj with up := u }) (B := []) (c := cj) (cap := cap) hm (by show u.length ≤ cap; omega)
            cases m4 with
            | none =>
              cases q2
              cases h
              refine CallN.at [0, 1, 2, 3, 4, 5, 6] hcall rfl rfl ?_ (by repeat' (first | exact rfl | exact atB_row plainN _ _ | exact atB_row plainPr _ _ | exact atB_row plainTmA _ _ | refine okO_cons ?_ ?_ | refine okO_none ?_ | refine allB_cons ?_ ?_)) ?_
              · rintro r bs' ⟨rfl, c', rfl⟩; exact ⟨rfl, rfl, (by repeat' (first | exact rfl | exact atB_row plainN _ _ | exact atB_row plainPr _ _ | exact atB_row plainTmA _ _ | refine okO_cons ?_ ?_ | refine okO_none ?_ | refine allB_cons ?_ ?_))⟩
              rintro rr bs' ⟨hrr, c', rfl⟩
              change rr = .tup [.agg [.int .i64 0, .int .i64 0], .bool false] at hrr
              subst hrr
              conv => whnf
              repeat' ((refine gC ?_; first | refine cN ?_ | refine .not ?_) <;> conv => whnf)
              refine RetP.lay [some 0, some 1, some 2, some 3, some 4, some 5] (by repeat' (first | exact rfl | exact atB_row plainN _ _ | exact atB_row plainPr _ _ | exact atB_row plainTmA _ _ | refine okO_cons ?_ ?_ | refine okO_none ?_ | refine allB_cons ?_ ?_)) ?_
              conv => whnf
              conv => whnf
              repeat' (refine RetP.nrm ?_ <;> conv => whnf)
              exact ⟨rfl, _, rfl⟩
            | some m4 =>
              simp only at q2
              refine CallN.at [0, 1, 2, 3, 4, 5, 6] hcall rfl rfl ?_ (by repeat' (first | exact rfl | exact atB_row plainN _ _ | exact atB_row plainPr _ _ | exact atB_row plainTmA _ _ | refine okO_cons ?_ ?_ | refine okO_none ?_ | refine allB_cons ?_ ?_)) ?_
              · rintro r bs' ⟨rfl, c', rfl⟩; exact ⟨rfl, rfl, (by repeat' (first | exact rfl | exact atB_row plainN _ _ | exact atB_row plainPr _ _ | exact atB_row plainTmA _ _ | refine okO_cons ?_ ?_ | refine okO_none ?_ | refine allB_cons ?_ ?_))⟩
              rintro rr bs' ⟨hrr, c', rfl⟩
              change rr = .tup [.agg [.int .i64 m4.1, .int .i64 m4.2], .bool true] at hrr
              subst hrr
              conv => whnf
              repeat' ((first | (refine gC ?_; first | refine cY ?_ | refine .not ?_) | (refine gW ?_; refine wI ?_)) <;> conv => whnf)
              refine ⟨(j + 1, g4, c'), ⟨⟨hj, q2, q3.trans ((Keep.root hr).trans (measF_keep hm))⟩, by show _ - (j + 1) < _ - j; omega⟩, ?_⟩
              dsimp only
              refine EndN.lay [some 0, some 1, some 2, some 3, some 4, some 5, some 6] (by repeat' (first | exact rfl | exact atB_row plainN _ _ | exact atB_row plainPr _ _ | exact atB_row plainTmA _ _ | refine okO_cons ?_ ?_ | refine okO_none ?_ | refine allB_cons ?_ ?_)) ?_
              conv => whnf
              refine EndN.at_ ?_ rfl
              conv => whnf
              refine And.intro ?_ ?_ <;> conv => whnf
              all_goals repeat' ((first | (refine gV ?_; first | refine vE ?_ | refine vI ?_) | (refine gX ?_; refine xB ?_) | exact True.intro) <;> conv => whnf)
      · obtain rfl : j = g.nodes.length := by omega
        rw [List.drop_of_length_le (by rw [List.length_range]; exact Nat.le_refl _), roundM] at q2
        cases q2
        simp only at h
        have hkm := q3
        obtain ⟨L, hL⟩ : ∃ L, L = sortL (gm.vars.map (·.1)) := ⟨_, rfl⟩
        have hLl : L.length ≤ 100000 := by rw [hL]; simp only [sortL, List.length_mergeSort, List.length_map, q3.vars]; exact hv1
        rw [← hL] at h
        conv => whnf
        repeat' ((refine gC ?_; (refine gD ?_; refine cJ ?_)) <;> conv => whnf)
        refine CallN.at [1] keys_ok rfl rfl ?_ (by repeat' (first | exact rfl | exact atB_row plainN _ _ | exact atB_row plainPr _ _ | exact atB_row plainTmA _ _ | refine okO_cons ?_ ?_ | refine okO_none ?_ | refine allB_cons ?_ ?_)) ?_
        · rintro r bs' ⟨rfl, rfl⟩; exact ⟨rfl, rfl, (by repeat' (first | exact rfl | exact atB_row plainN _ _ | exact atB_row plainPr _ _ | exact atB_row plainTmA _ _ | refine okO_cons ?_ ?_ | refine okO_none ?_ | refine allB_cons ?_ ?_))⟩
        rintro r bs' ⟨rfl, rfl⟩
        conv => whnf
        skip
        have hso := sorted_ok (l := mpE natA gm.vars) (by simp only [mpE, List.length_map, q3.vars]; exact hv1) (by rw [mpE_fst, q3.vars]; exact hv2) (fun e he => by
          obtain ⟨x, hx, rfl⟩ := List.mem_map.1 he
          rw [q3.vars] at hx
          exact hv3 x hx)
        rw [mpE_fst, ← hL] at hso
        refine CallN.at [1, 7] hso rfl rfl ?_ (by repeat' (first | exact rfl | exact atB_row plainN _ _ | exact atB_row plainPr _ _ | exact atB_row plainTmA _ _ | refine okO_cons ?_ ?_ | refine okO_none ?_ | refine allB_cons ?_ ?_)) ?_
        · rintro r bs' ⟨rfl, rfl⟩; exact ⟨rfl, rfl, (by repeat' (first | exact rfl | exact atB_row plainN _ _ | exact atB_row plainPr _ _ | exact atB_row plainTmA _ _ | refine okO_cons ?_ ?_ | refine okO_none ?_ | refine allB_cons ?_ ?_))⟩
        rintro r bs' ⟨rfl, rfl⟩
        conv => whnf
        repeat' ((refine gL ?_; refine .map ?_) <;> conv => whnf)
        cases hR : roundS N f L gm [] with
        | none => rw [hR] at h; cases h
        | some go =>
          obtain ⟨gr, ro⟩ := go
          rw [hR] at h
          refine LoopP.by (fb := true) (fun _ (q : Nat × Gr × List Bnd) => ⟨[(0, .ptr 0 0), (8, .sl (.own 5) (q.2.2.map Bnd.av)), (41, .sl .no (L.map intA)), (42, .int .i64 (L.length : Int)), (43, .int .i64 (q.1 : Int))], q.2.1.bs cap, 6⟩) (fun q => q.1 ≤ L.length ∧ roundS N f (L.drop q.1) q.2.1 q.2.2 = some (gr, ro) ∧ q.2.1.up.length = gm.up.length ∧ q.2.2.length ≤ q.1) (fun q => L.length - q.1) (0, gm, []) ⟨Nat.zero_le _, hR, rfl, Nat.le_refl _⟩ ?_ ?_
          · refine EndN.lay [some 0, some 1, some 2, some 3, some 4, some 5] (by repeat' (first | exact rfl | exact atB_row plainN _ _ | exact atB_row plainPr _ _ | exact atB_row plainTmA _ _ | refine okO_cons ?_ ?_ | refine okO_none ?_ | refine allB_cons ?_ ?_)) ?_
            conv => whnf
            refine EndN.at_ ?_ rfl
            conv => whnf
            refine And.intro ?_ ?_ <;> conv => whnf
            all_goals repeat' ((first | (refine gV ?_; first | refine vE ?_ | refine vI ?_ | ((refine gK ?_; refine vD ?_ ?_); (focus (simp [AV.norm, AV.norm1, ]; done)))) | (refine gX ?_; refine xB ?_) | exact True.intro) <;> conv => whnf)
          · rintro ⟨j, gj, oj⟩ ⟨r1, r2, r3, r4⟩
            dsimp only at r1 r2 r3 r4 ⊢
            have hup := q3.up
            by_cases hj : j < L.length
            · obtain ⟨v, hv⟩ : ∃ v, L[j]? = some v := ⟨_, List.getElem?_eq_getElem hj⟩
              rw [List.drop_eq_getElem_cons hj, (List.getElem?_eq_some_iff.1 hv).2, roundS] at r2
              cases hvk : lk gj.vars v with
              | none => rw [hvk] at r2; cases r2
              | some k =>
                rw [hvk] at r2
                simp only at r2
                cases hr : rootF N gj.up k with
                | none => rw [hr] at r2; cases r2
                | some ur =>
                  obtain ⟨u, r'⟩ := ur
                  rw [hr] at r2
                  simp only at r2
                  have hul := rootF_len hr
                  conv => whnf
                  repeat' ((first | (refine gC ?_; (refine gD ?_; refine cI ?_)) | (refine gI ?_; (refine gM ?_; refine iE ?_)) | (refine gMp ?_; refine mA ?_) | (refine gMs ?_; refine mEs ?_)) <;> conv => whnf)
                  refine CallN.at [0, 1, 2, 3, 4, 5] (root_ok hr (by omega)) rfl rfl ?_ (by repeat' (first | exact rfl | exact atB_row plainN _ _ | exact atB_row plainPr _ _ | exact atB_row plainTmA _ _ | refine okO_cons ?_ ?_ | refine okO_none ?_ | refine allB_cons ?_ ?_)) ?_
                  · rintro r bs' ⟨rfl, rfl⟩; exact ⟨rfl, rfl, (by repeat' (first | exact rfl | exact atB_row plainN _ _ | exact atB_row plainPr _ _ | exact atB_row plainTmA _ _ | refine okO_cons ?_ ?_ | refine okO_none ?_ | refine allB_cons ?_ ?_))⟩
                  rintro r bs' ⟨rfl, rfl⟩
                  by_cases hskip : lk gj.shape r' = none ∧ lkD gj.least r' = v
                  · rw [if_pos hskip] at r2
                    obtain ⟨hsn, hsl⟩ := hskip
                    cases hll : lk gj.least r' with
                    | none =>
                      rw [lkD, hll] at hsl
                      conv => whnf
                      repeat' ((first | (refine gC ?_; first | refine cN ?_ | refine .not ?_ | (refine gD ?_; refine cI ?_)) | (refine gW ?_; refine wI ?_) | (refine gMp ?_; refine mA ?_) | (refine gMs ?_; refine mEn ?_)) <;> conv => whnf)
                      refine ⟨(j + 1, { gj with up := u }, oj), ⟨⟨hj, r2, by show u.length = _; omega, by show oj.length ≤ j + 1; omega⟩, by show _ - (j + 1) < _ - j; omega⟩, ?_⟩
                      dsimp only
                      refine EndN.lay [some 0, some 1, some 2, some 3, some 4, some 5] (by repeat' (first | exact rfl | exact atB_row plainN _ _ | exact atB_row plainPr _ _ | exact atB_row plainTmA _ _ | refine okO_cons ?_ ?_ | refine okO_none ?_ | refine allB_cons ?_ ?_)) ?_
                      conv => whnf
                      refine EndN.at_ ?_ rfl
                      conv => whnf
                      refine And.intro ?_ ?_ <;> conv => whnf
                      all_goals repeat' ((first | (refine gV ?_; first | refine vE ?_ | refine vI ?_) | (refine gX ?_; refine xB ?_) | exact True.intro) <;> conv => whnf)
                    | some w =>
                      rw [lkD, hll] at hsl
                      conv => whnf
                      repeat' ((first | (refine gC ?_; first | refine cN ?_ | refine .not ?_ | (refine gD ?_; refine cI ?_)) | (refine gW ?_; refine wI ?_) | (refine gMp ?_; refine mA ?_) | (refine gMs ?_; first | refine mEs ?_ | refine mEn ?_)) <;> conv => whnf)
                      refine ⟨(j + 1, { gj with up := u }, oj), ⟨⟨hj, r2, by show u.length = _; omega, by show oj.length ≤ j + 1; omega⟩, by show _ - (j + 1) < _ - j; omega⟩, ?_⟩
                      dsimp only
                      refine EndN.lay [some 0, some 1, some 2, some 3, some 4, some 5] (by repeat' (first | exact rfl | exact atB_row plainN _ _ | exact atB_row plainPr _ _ | exact atB_row plainTmA _ _ | refine okO_cons ?_ ?_ | refine okO_none ?_ | refine allB_cons ?_ ?_)) ?_
                      conv => whnf
                      refine EndN.at_ ?_ rfl
                      conv => whnf
                      refine And.intro ?_ ?_ <;> conv => whnf
                      all_goals repeat' ((first | (refine gV ?_; first | refine vE ?_ | refine vI ?_) | (refine gX ?_; refine xB ?_) | exact True.intro) <;> conv => whnf)
                  · rw [if_neg hskip] at r2
                    cases hkk : lk gj.known r' with
                    | none => rw [hkk] at r2; cases r2
                    | some m =>
                      rw [hkk] at r2
                      simp only at r2
                      have hshape : ∀ {K : Prop}, (∀ x, lk gj.shape r' = some x → K) → (lk gj.shape r' = none → lk gj.least r' = none → v ≠ 0 → K) → (∀ w, lk gj.shape r' = none → lk gj.least r' = some w → w ≠ v → K) → K := fun k1 k2 k3 => by
                        cases hs : lk gj.shape r' with
                        | some x => exact k1 x hs
                        | none =>
                          cases hl : lk gj.least r' with
                          | none => exact k2 hs hl fun e => hskip ⟨hs, by rw [lkD, hl, e]⟩
                          | some w => exact k3 w hs hl fun e => hskip ⟨hs, by rw [lkD, hl]; exact e⟩
                      by_cases hbig : 200 < m.1 ∨ 20 < m.2
                      · rw [if_pos hbig] at r2
                        cases r2
                        cases h
                        refine hshape (fun x hsx => ?_) (fun hsx hlx hv0 => ?_) fun w hsx hlx hwv => ?_
                        all_goals
                          by_cases hb1 : 200 < m.1
                          · conv => whnf
                            repeat' ((first | (refine gC ?_; first | refine cY ?_ | refine cN ?_ | refine .not ?_ | (refine gD ?_; first | refine cI ?_ | refine cJ ?_)) | (refine gMp ?_; refine mA ?_) | (refine gMs ?_; first | refine mEs ?_ | refine mEn ?_)) <;> conv => whnf)
                            refine RetP.lay [some 0, some 1, some 2, some 3, some 4, some 5] (by repeat' (first | exact rfl | exact atB_row plainN _ _ | exact atB_row plainPr _ _ | exact atB_row plainTmA _ _ | refine okO_cons ?_ ?_ | refine okO_none ?_ | refine allB_cons ?_ ?_)) ?_
                            conv => whnf
                            conv => whnf
                            repeat' (refine RetP.nrm ?_ <;> conv => whnf)
                            exact ⟨rfl, _, rfl⟩
                          · have hb2 : 20 < m.2 := hbig.resolve_left hb1
                            conv => whnf
                            repeat' ((first | (refine gC ?_; first | refine cY ?_ | refine cN ?_ | refine .not ?_ | (refine gD ?_; first | refine cI ?_ | refine cJ ?_)) | (refine gMp ?_; refine mA ?_) | (refine gMs ?_; first | refine mEs ?_ | refine mEn ?_)) <;> conv => whnf)
                            refine RetP.lay [some 0, some 1, some 2, some 3, some 4, some 5] (by repeat' (first | exact rfl | exact atB_row plainN _ _ | exact atB_row plainPr _ _ | exact atB_row plainTmA _ _ | refine okO_cons ?_ ?_ | refine okO_none ?_ | refine allB_cons ?_ ?_)) ?_
                            conv => whnf
                            conv => whnf
                            repeat' (refine RetP.nrm ?_ <;> conv => whnf)
                            exact ⟨rfl, _, rfl⟩
                      · rw [if_neg hbig] at r2
                        have hb1 : ¬ 200 < m.1 := fun e => hbig (.inl e)
                        have hb2 : ¬ 20 < m.2 := fun e => hbig (.inr e)
                        cases hE : expF N f { gj with up := u } r' with
                        | none => rw [hE] at r2; cases r2
                        | some gt =>
                          obtain ⟨g4, t4⟩ := gt
                          rw [hE] at r2
                          simp only at r2
                          by_cases hg4 : g4.up.length = gj.up.length
                          rotate_left
                          · rw [if_neg hg4] at r2; cases r2
                          rw [if_pos hg4] at r2
                          refine hshape (fun x hsx => ?_) (fun hsx hlx hv0 => ?_) fun w hsx hlx hwv => ?_
                          all_goals
                            conv => whnf
                            repeat' ((first | (refine gC ?_; first | refine cY ?_ | refine cN ?_ | refine .not ?_ | (refine gD ?_; refine cJ ?_)) | (refine gMp ?_; refine mA ?_) | (refine gMs ?_; first | refine mEs ?_ | refine mEn ?_)) <;> conv => whnf)
                            refine CallN.at [0, 1, 2, 3, 4, 5] (expand_ok (N := N) f (g := { gj with up := u }) (cap := cap) hE (by show u.length ≤ cap; omega)) rfl rfl ?_ (by repeat' (first | exact rfl | exact atB_row plainN _ _ | exact atB_row plainPr _ _ | exact atB_row plainTmA _ _ | refine okO_cons ?_ ?_ | refine okO_none ?_ | refine allB_cons ?_ ?_)) ?_
                            · rintro r bs' ⟨rfl, rfl⟩; exact ⟨rfl, rfl, (by repeat' (first | exact rfl | exact atB_row plainN _ _ | exact atB_row plainPr _ _ | exact atB_row plainTmA _ _ | refine okO_cons ?_ ?_ | refine okO_none ?_ | refine allB_cons ?_ ?_))⟩
                            rintro r bs' ⟨rfl, rfl⟩
                            conv => whnf
                            repeat' ((first | (refine gW ?_; refine wI ?_) | (refine gN ?_; refine nS ?_)) <;> conv => whnf)
                            refine ⟨(j + 1, g4, oj ++ [⟨v, t4⟩]), ⟨⟨hj, r2, by show g4.up.length = _; omega, by show (oj ++ [_]).length ≤ j + 1; rw [List.length_append, List.length_singleton]; omega⟩, by show _ - (j + 1) < _ - j; omega⟩, ?_⟩
                            dsimp only
                            refine EndN.lay [some 0, some 1, some 2, some 3, some 4, some 5] (by repeat' (first | exact rfl | exact atB_row plainN _ _ | exact atB_row plainPr _ _ | exact atB_row plainTmA _ _ | refine okO_cons ?_ ?_ | refine okO_none ?_ | refine allB_cons ?_ ?_)) ?_
                            conv => whnf
                            refine EndN.at_ ?_ rfl
                            conv => whnf
                            refine And.intro ?_ ?_ <;> conv => whnf
                            all_goals repeat' ((first | (refine gV ?_; first | refine vE ?_ | refine vI ?_ | (refine WkN.sl ?_ ?_; (focus (simp [AV.norm, AV.norm1, Bnd.av]; done)))) | (refine gX ?_; refine xB ?_) | exact True.intro) <;> conv => whnf)
            · obtain rfl : j = L.length := by omega
              rw [List.drop_length, roundS] at r2
              cases r2
              cases h
              conv => whnf
              repeat' ((refine gC ?_; (refine gD ?_; refine cJ ?_)) <;> conv => whnf)
              conv => whnf
              repeat' (refine RetP.nrm ?_ <;> conv => whnf)
              exact ⟨rfl, _, rfl⟩
end Go.CK

namespace Go.CK
open Go.RowKit Go.Proofs
/-- the class of a byte -/
def clsN (c : Nat) : Nat := if 97 ≤ c ∧ c ≤ 122 then 1 else if (65 ≤ c ∧ c ≤ 90) ∨ c = 95 then 2 else if 48 ≤ c ∧ c ≤ 57 then 4 else 0
set_option maxHeartbeats 1000000 in
theorem of_any (c : Nat) (w : World) : Calls Try.prog 94 #[.int .u8 (c : Int)] w fun e w' => e = .returned (.int .u8 (clsN c : Int)) ∧ w' = w := by
  have d : ∀ (p : Prop) [Decidable p], p → decide p = true := fun p _ h => decide_eq_true h
  by_cases h1 : (97 : Int) ≤ c
  · by_cases h2 : (c : Int) ≤ 122
    · have hv : clsN c = 1 := by unfold clsN; rw [if_pos ⟨by omega, by omega⟩]
      rw [hv]
      go_enter Try.func94, Try.ntmps94
      go_wp2_with fail
      go_ret
      exact ⟨rfl, rfl⟩
    · have hv : clsN c = 0 := by unfold clsN; rw [if_neg (by omega), if_neg (by omega), if_neg (by omega)]
      rw [hv]
      have h3 : (65 : Int) ≤ c := by omega
      have h4 : ¬ (c : Int) ≤ 90 := by omega
      have h5 : ¬ (c : Int) = 95 := by omega
      have h6 : (48 : Int) ≤ c := by omega
      have h7 : ¬ (c : Int) ≤ 57 := by omega
      go_enter Try.func94, Try.ntmps94
      go_wp2_with fail
      go_ret
      exact ⟨rfl, rfl⟩
  · by_cases h3 : (65 : Int) ≤ c
    · by_cases h4 : (c : Int) ≤ 90
      · have hv : clsN c = 2 := by unfold clsN; rw [if_neg (by omega), if_pos (by omega)]
        rw [hv]
        go_enter Try.func94, Try.ntmps94
        go_wp2_with fail
        go_ret
        exact ⟨rfl, rfl⟩
      · by_cases h5 : (c : Int) = 95
        · have hv : clsN c = 2 := by unfold clsN; rw [if_neg (by omega), if_pos (by omega)]
          rw [hv]
          go_enter Try.func94, Try.ntmps94
          go_wp2_with fail
          go_ret
          exact ⟨rfl, rfl⟩
        · have h6 : (48 : Int) ≤ c := by omega
          have h7 : ¬ (c : Int) ≤ 57 := by omega
          have hv : clsN c = 0 := by unfold clsN; rw [if_neg (by omega), if_neg (by omega), if_neg (by omega)]
          rw [hv]
          go_enter Try.func94, Try.ntmps94
          go_wp2_with fail
          go_ret
          exact ⟨rfl, rfl⟩
    · have h5 : ¬ (c : Int) = 95 := by omega
      by_cases h6 : (48 : Int) ≤ c
      · by_cases h7 : (c : Int) ≤ 57
        · have hv : clsN c = 4 := by unfold clsN; rw [if_neg (by omega), if_neg (by omega), if_pos (by omega)]
          rw [hv]
          go_enter Try.func94, Try.ntmps94
          go_wp2_with fail
          go_ret
          exact ⟨rfl, rfl⟩
        · have hv : clsN c = 0 := by unfold clsN; rw [if_neg (by omega), if_neg (by omega), if_neg (by omega)]
          rw [hv]
          go_enter Try.func94, Try.ntmps94
          go_wp2_with fail
          go_ret
          exact ⟨rfl, rfl⟩
      · have hv : clsN c = 0 := by unfold clsN; rw [if_neg (by omega), if_neg (by omega), if_neg (by omega)]
        rw [hv]
        go_enter Try.func94, Try.ntmps94
        go_wp2_with fail
        go_ret
        exact ⟨rfl, rfl⟩
/-- what no name has behind its first byte -/
def badR (r : Nat) : Bool := decide (122 < r) || decide (clsN r = 0)
theorem cls_and (c : Nat) : ((clsN c : Int) = 0 ∧ clsN c = 0) ∨ ((clsN c = 1 ∨ clsN c = 2 ∨ clsN c = 4)) := by
  unfold clsN; split
  · exact .inr (.inl rfl)
  · split
    · exact .inr (.inr (.inl rfl))
    · split
      · exact .inr (.inr (.inr rfl))
      · exact .inl ⟨rfl, rfl⟩
set_option maxHeartbeats 1000000 in
theorem word1_any (r : Nat) (w : World) : Calls Try.prog 96 #[.int .i32 (r : Int)] w fun e w' => e = .returned (.bool (badR r)) ∧ w' = w := by
  by_cases h1 : (122 : Int) < r
  · have hv : badR r = true := by unfold badR; rw [decide_eq_true (by omega : 122 < r)]; rfl
    rw [hv]
    go_enter Try.func96, Try.ntmps96
    go_wp2_with fail
    go_ret
    exact ⟨rfl, rfl⟩
  · have hc := of_any (r : Nat) w
    rcases cls_and r with ⟨_, h2⟩ | h2
    · have hv : badR r = true := by unfold badR; rw [decide_eq_true h2, Bool.or_true]
      rw [hv]
      rw [h2] at hc
      have hc : Calls Try.prog 94 #[.int .u8 (r : Int)] w fun e w' => e = .returned (.int .u8 0) ∧ w' = w := hc
      go_enter Try.func96, Try.ntmps96
      go_wp2_with (go_at_call 94; refine hc.mono ?_; rintro e w' ⟨rfl, rfl⟩)
      go_ret
      exact ⟨rfl, rfl⟩
    · have hv : badR r = false := by unfold badR; rw [decide_eq_false (by omega : ¬ 122 < r), decide_eq_false (by omega : ¬ clsN r = 0)]; rfl
      rw [hv]
      rcases h2 with h2 | h2 | h2 <;> rw [h2] at hc
      · have hc : Calls Try.prog 94 #[.int .u8 (r : Int)] w fun e w' => e = .returned (.int .u8 1) ∧ w' = w := hc
        go_enter Try.func96, Try.ntmps96
        go_wp2_with (go_at_call 94; refine hc.mono ?_; rintro e w' ⟨rfl, rfl⟩)
        go_ret
        exact ⟨rfl, rfl⟩
      · have hc : Calls Try.prog 94 #[.int .u8 (r : Int)] w fun e w' => e = .returned (.int .u8 2) ∧ w' = w := hc
        go_enter Try.func96, Try.ntmps96
        go_wp2_with (go_at_call 94; refine hc.mono ?_; rintro e w' ⟨rfl, rfl⟩)
        go_ret
        exact ⟨rfl, rfl⟩
      · have hc : Calls Try.prog 94 #[.int .u8 (r : Int)] w fun e w' => e = .returned (.int .u8 4) ∧ w' = w := hc
        go_enter Try.func96, Try.ntmps96
        go_wp2_with (go_at_call 94; refine hc.mono ?_; rintro e w' ⟨rfl, rfl⟩)
        go_ret
        exact ⟨rfl, rfl⟩
end Go.CK
namespace Go.AM
open Go.CK Go.RowKit Go.Proofs
/-- a function that makes blocks and hands back a value that lies nowhere -/
theorem Fun.ofBelow {P : Program} {f : FuncId} {vals : List AV} {r : AV} {v : Value} (hr : ∀ M σ n, RV M σ n r v) (h : ∀ (M : Hp) (σ : Nat → Nat) (n : Nat) (w : World) (args : List Value), M.le (Hp.of w) → args.length = vals.length → (∀ j (hj : j < vals.length) v, args[j]? = some v → RV M σ n vals[j] v) → Calls P f args.toArray w fun e w' => e = .returned v ∧ Below w.heap.size w w') : Fun P f vals r := by
  intro bs E G a0 w args lo hs hl hv
  refine (h G.M G.σ bs.length w args hs.ok hl hv).mono ?_
  rintro e w' ⟨rfl, hb⟩
  have hMlt : ∀ B o u, G.M B o = some u → B < w.heap.size := fun B o u hu => Hp.lt hs.ok hu
  have h0 := hs.reAct (callE G bs w 1) ⟨#[v], []⟩ (Fr.refl _ _ _) rfl bs.length rfl (Nat.le_refl _) (fun _ _ => rfl) (fun B hB => .inl hB) rfl
  have h1 := h0.grow (M' := G.M) (w' := w') ⟨hb.os, hb.tape, hb.output, hb.size, Hp.le_refl _, fun B hB _ => hb.block B hB, fun _ _ _ _ => rfl⟩ (fun B o u hu => (hb.cell (p := ⟨B, o, none⟩) (hMlt B o u hu)).trans (hs.ok _ _ _ hu))
  exact ⟨_, _, _, _, rfl, ⟨rfl, rfl⟩, h1.put (k := 0) Nat.zero_lt_one (x := r) (hr _ _ _)⟩
end Go.AM
namespace Go.CK
open Go.AM Go.RowKit Go.Proofs
theorem contains_ok (s : ByteArray) (c : UInt8) : Fun Try.prog 82 [.str s, .str ⟨⟨[c]⟩⟩] (.bool (decide (0 ≤ Lib.indexByte s.data.toList c))) := by
  refine Fun.ofBelow (fun M σ n => .flat (.bool _)) fun M σ n w args hM hal hv => ?_
  obtain ⟨v1, v2, rfl⟩ : ∃ v1 v2, args = [v1, v2] := by
    match args, hal with
    | [v1, v2], _ => exact ⟨v1, v2, rfl⟩
  have h1 := hv 0 (by simp) v1 rfl
  have h2 := hv 1 (by simp) v2 rfl
  simp only [List.getElem_cons_zero, List.getElem_cons_succ] at h1 h2
  obtain ⟨rfl, _⟩ := h1.inv_str
  obtain ⟨rfl, _⟩ := h2.inv_str
  refine (Any.strings_Contains_one Try.laysContains s c w).mono ?_
  rintro e w' ⟨rfl, rfl⟩
  exact ⟨rfl, Below.refl _ _⟩
theorem get0 {s : ByteArray} (h : 0 < s.size) : s.get! 0 = s[0]'h := by
  show s.data[0]! = s.data[0]
  exact getElem!_pos s.data 0 h
/-- name.word at the lower letters -/
def wordL (s : ByteArray) : Bool := decide (1 ≤ s.size ∧ s.size ≤ 40) && (decide (clsN (s.get! 0).toNat = 1) && decide (Lib.idxFunc badR true (s.extract 1 s.size) < 0))
set_option maxHeartbeats 1000000 in
theorem word_any (s : ByteArray) (hs : s.size ≤ 9223372036854775807) (w : World) : Calls Try.prog 80 #[.string s, .int .u8 1] w fun e w' => e = .returned (.bool (wordL s)) ∧ Below w.heap.size w w' := by
  by_cases h0 : s = ⟨⟨[]⟩⟩
  · subst h0
    go_enter Try.func80, Try.ntmps80
    go_wp2_with fail
    go_ret
    exact ⟨rfl, Below.refl _ _⟩
  · have hpos : 0 < s.size := Nat.pos_of_ne_zero fun e => h0 (ByteArray.ext (Array.eq_empty_of_size_eq_zero e))
    have h0' : (s.toList == ([] : List UInt8)) = false := by
      rw [beq_eq_false_iff_ne]
      intro e
      rw [ByteArray.toList_eq] at e
      have : s.data.toList.length = 0 := by rw [e]; rfl
      rw [Array.length_toList] at this
      exact absurd hpos (by rw [show s.size = s.data.size from rfl, this]; omega)
    by_cases h1 : (40 : Int) < s.size
    · have hv : wordL s = false := by unfold wordL; rw [decide_eq_false (by omega)]; rfl
      rw [hv]
      go_enter Try.func80, Try.ntmps80
      go_wp2_with fail
      go_ret
      exact ⟨rfl, Below.refl _ _⟩
    · have hg := get0 hpos
      have hc := of_any (s[0]'hpos).toNat w
      by_cases h2 : clsN (s[0]'hpos).toNat = 1
      · rw [h2] at hc
        have hc : Calls Try.prog 94 #[.int .u8 ((s[0]'hpos).toNat : Int)] w fun e w' => e = .returned (.int .u8 1) ∧ w' = w := hc
        have hi := Any.strings_IndexFunc Try.laysIndexFunc 96 #[] (enters_of Try.func96 (by kernel_rfl) rfl) badR (s.extract 1 s.size) w fun W x _ => (word1_any x W).mono fun e w' ⟨h1, h2⟩ => ⟨h1, 0, h2⟩
        have hv : wordL s = decide (Lib.idxFunc badR true (s.extract 1 s.size) < 0) := by unfold wordL; rw [hg, decide_eq_true (show 1 ≤ s.size ∧ s.size ≤ 40 by omega), decide_eq_true h2]; rfl
        rw [hv]
        go_enter Try.func80, Try.ntmps80
        go_wp2_with (first | (go_at_call 94; refine hc.mono ?_; rintro e w' ⟨rfl, rfl⟩) | (go_at_call 95; refine hi.mono ?_; rintro e w' ⟨rfl, hb⟩))
        go_ret
        exact ⟨rfl, hb⟩
      · have hv : wordL s = false := by unfold wordL; rw [hg, decide_eq_false h2]; simp
        rw [hv]
        rcases cls_and (s[0]'hpos).toNat with ⟨_, h3⟩ | h3 | h3 | h3
        · rw [h3] at hc
          have hc : Calls Try.prog 94 #[.int .u8 ((s[0]'hpos).toNat : Int)] w fun e w' => e = .returned (.int .u8 0) ∧ w' = w := hc
          go_enter Try.func80, Try.ntmps80
          go_wp2_with (go_at_call 94; refine hc.mono ?_; rintro e w' ⟨rfl, rfl⟩)
          go_ret
          exact ⟨rfl, Below.refl _ _⟩
        · exact absurd h3 h2
        · rw [h3] at hc
          have hc : Calls Try.prog 94 #[.int .u8 ((s[0]'hpos).toNat : Int)] w fun e w' => e = .returned (.int .u8 2) ∧ w' = w := hc
          go_enter Try.func80, Try.ntmps80
          go_wp2_with (go_at_call 94; refine hc.mono ?_; rintro e w' ⟨rfl, rfl⟩)
          go_ret
          exact ⟨rfl, Below.refl _ _⟩
        · rw [h3] at hc
          have hc : Calls Try.prog 94 #[.int .u8 ((s[0]'hpos).toNat : Int)] w fun e w' => e = .returned (.int .u8 4) ∧ w' = w := hc
          go_enter Try.func80, Try.ntmps80
          go_wp2_with (go_at_call 94; refine hc.mono ?_; rintro e w' ⟨rfl, rfl⟩)
          go_ret
          exact ⟨rfl, Below.refl _ _⟩
end Go.CK

namespace Go.CK
open Go.AM Go.Proofs
def resB (s : ByteArray) : Bool := decide (s = ⟨⟨[99, 111, 110, 115, 116, 114, 97, 105, 110, 116]⟩⟩) || (decide (s = ⟨⟨[116, 114, 117, 101]⟩⟩) || (decide (s = ⟨⟨[102, 97, 105, 108]⟩⟩) || (decide (s = ⟨⟨[105, 115]⟩⟩) || (decide (s = ⟨⟨[105, 110, 116]⟩⟩) || decide (s = ⟨⟨[103, 114, 111, 117, 110, 100]⟩⟩)))))
theorem reserved_ok (s : ByteArray) : Fun Try.prog 81 [.str s] (.bool (resB s)) := by
  refine Fun.of (op_name_Reserved (by simp) ?_) rfl rfl
  conv => whnf
  conv => whnf
  repeat' ((first | (refine gC ?_; first | (refine gD ?_; refine cI ?_) | refine CondN.dec (fun hc => ?_) (fun hc => ?_)) | refine RetP.nrm ?_) <;> conv => whnf)
  all_goals (simp [resB, *])
theorem idx_from (s : ByteArray) : ∀ (f pos : Nat), s.size ≤ pos + f → (Lib.idxFuncFrom badR true s f pos < 0 ↔ ∀ i, pos ≤ i → i < s.size → clsN (s.get! i).toNat ≠ 0)
  | 0, pos, h => ⟨fun _ i h1 h2 => by omega, fun _ => by rw [Lib.idxFuncFrom]; decide⟩
  | f + 1, pos, h => by
    rw [Lib.idxFuncFrom]
    by_cases hp : pos < s.size
    · rw [if_pos hp]
      have hd := Lib.decode_at s pos
      rcases Lib.decodeN_cases (s.size - pos) (s.get! pos).toNat (s.get! (pos + 1)).toNat (s.get! (pos + 2)).toNat (s.get! (pos + 3)).toNat with ⟨h1, h2⟩ | h2
      · rw [hd, h2]
        by_cases hc : clsN (s.get! pos).toNat = 0
        · have hb : badR (s.get! pos).toNat = true := by unfold badR; rw [decide_eq_true hc, Bool.or_true]
          rw [if_pos hb]
          exact ⟨fun e => by omega, fun e => absurd hc (e pos (Nat.le_refl _) hp)⟩
        · have hle : ¬ 122 < (s.get! pos).toNat := by
            intro hlt; apply hc; unfold clsN
            rw [if_neg (by omega), if_neg (by omega), if_neg (by omega)]
          have hb : badR (s.get! pos).toNat = false := by unfold badR; rw [decide_eq_false hle, decide_eq_false hc]; rfl
          rw [if_neg (by rw [hb]; decide), idx_from s f (pos + 1) (by omega)]
          refine ⟨fun e i h3 h4 => ?_, fun e i h3 h4 => e i (by omega) h4⟩
          rcases Nat.eq_or_lt_of_le h3 with h5 | h5
          · rw [← h5]; exact hc
          · exact e i h5 h4
      · have hr : 128 ≤ (Utf8.decode s pos).1 ∧ ¬ (s.get! pos).toNat < 128 ∨ (s.get! pos).toNat < 128 := by
          by_cases hb : (s.get! pos).toNat < 128
          · exact .inr hb
          · refine .inl ⟨?_, hb⟩
            rw [hd]
            rcases h2 with ⟨_, _, _, h5, h6⟩ | ⟨_, _, _, _, h5, h6⟩ | ⟨h6, _⟩ | h6
            · rw [h6]; exact h5
            · rw [h6]; show 128 ≤ _; omega
            · omega
            · rw [h6]; decide
        rcases hr with ⟨hr, hb⟩ | hb
        · have hbr : badR (Utf8.decode s pos).1 = true := by unfold badR; rw [decide_eq_true (by omega : 122 < _)]; rfl
          rw [if_pos hbr]
          have hc : clsN (s.get! pos).toNat = 0 := by unfold clsN; rw [if_neg (by omega), if_neg (by omega), if_neg (by omega)]
          exact ⟨fun e => by omega, fun e => absurd hc (e pos (Nat.le_refl _) hp)⟩
        · exfalso
          have : Lib.decodeN (s.size - pos) (s.get! pos).toNat (s.get! (pos + 1)).toNat (s.get! (pos + 2)).toNat (s.get! (pos + 3)).toNat = ((s.get! pos).toNat, 1) := by unfold Lib.decodeN; rw [if_pos hb]
          rw [this] at h2
          rcases h2 with ⟨h3, _⟩ | ⟨h3, _⟩ | ⟨h3, _⟩ | h6
          · omega
          · omega
          · dsimp only at h3; omega
          · have := congrArg Prod.fst h6
            simp only at this
            omega
    · rw [if_neg hp]
      exact ⟨fun _ i h1 h2 => by omega, fun _ => by decide⟩
/-- what is a word: its length, its bytes -/
def wordB (s : ByteArray) : Bool := decide (1 ≤ s.size ∧ s.size ≤ 40 ∧ ∀ i, i < s.size → clsN (s.get! i).toNat ≠ 0)
theorem get_tail (s : ByteArray) {i : Nat} (h : i + 1 < s.size) : (s.extract 1 s.size).get! i = s.get! (i + 1) := by
  show (s.extract 1 s.size).data[i]! = s.data[i + 1]!
  have h2 : i + 1 < s.data.size := h
  have hd : (s.extract 1 s.size).data = s.data.extract 1 s.size := by simp
  have h3 : i < (s.data.extract 1 s.size).size := by
    rw [Array.size_extract]; show i < min s.data.size s.data.size - 1; omega
  rw [hd, getElem!_pos s.data (i + 1) h2, getElem!_pos _ i h3, Array.getElem_extract]
  congr 1; omega
theorem wordL_eq (s : ByteArray) : wordL s = (wordB s && decide (clsN (s.get! 0).toNat = 1)) := by
  unfold wordL wordB
  rw [Bool.eq_iff_iff]
  simp only [Bool.and_eq_true, decide_eq_true_eq]
  have hsz : (s.extract 1 s.size).size = s.size - 1 := by simp
  rw [show Lib.idxFunc badR true (s.extract 1 s.size) = Lib.idxFuncFrom badR true (s.extract 1 s.size) (s.extract 1 s.size).size 0 from rfl, idx_from _ _ 0 (by omega), hsz]
  constructor
  · rintro ⟨⟨h1, h2⟩, h3, h4⟩
    refine ⟨⟨h1, h2, fun i hi => ?_⟩, h3⟩
    cases i with
    | zero => rw [h3]; decide
    | succ i =>
      rw [← get_tail s hi]
      exact h4 i (Nat.zero_le _) (by omega)
  · rintro ⟨⟨h1, h2, h4⟩, h3⟩
    refine ⟨⟨h1, h2⟩, h3, fun i _ hi => ?_⟩
    rw [get_tail s (by omega)]
    exact h4 (i + 1) (by omega)
theorem word_ok (s : ByteArray) : Fun Try.prog 80 [.str s, .int .u8 1] (.bool (wordL s)) := by
  refine Fun.ofBelow (fun M σ n => .flat (.bool _)) fun M σ n w args hM hal hv => ?_
  obtain ⟨v1, v2, rfl⟩ : ∃ v1 v2, args = [v1, v2] := by
    match args, hal with
    | [v1, v2], _ => exact ⟨v1, v2, rfl⟩
  have h1 := hv 0 (by simp) v1 rfl
  have h2 := hv 1 (by simp) v2 rfl
  simp only [List.getElem_cons_zero, List.getElem_cons_succ] at h1 h2
  obtain ⟨rfl, hs⟩ := h1.inv_str
  obtain rfl := h2.inv_int
  exact word_any s (by ((try unfold glim at hs);(try unfold lim at hs)); omega) w
/-- what is a name -/
def nameR (s : ByteArray) : Bool := wordL s && !resB s
theorem right_ok (s : ByteArray) : Fun Try.prog 72 [.str s] (.bool (nameR s)) := by
  refine Fun.of (op_name_Right (by simp) ?_) rfl rfl
  conv => whnf
  conv => whnf
  repeat' ((first | (refine gF ?_; first | refine CallN.fn (word_ok _) ?_ | refine CallN.fn (reserved_ok _) ?_) | (refine gC ?_; first | refine cYa ?_ | refine cNa ?_ | refine CondN.any (fun hc => ?_) (fun hc => ?_)) | refine RetP.nrm ?_) <;> conv => whnf)
  all_goals (simp [nameR, *])
def operB (s : ByteArray) : Bool := decide (s = ⟨⟨[43]⟩⟩) || (decide (s = ⟨⟨[45]⟩⟩) || (decide (s = ⟨⟨[42]⟩⟩) || (decide (s = ⟨⟨[47]⟩⟩) || decide (s = ⟨⟨[37]⟩⟩))))
theorem oper_no {s : ByteArray} (h : ¬ s.size = 1) : operB s = false := by
  unfold operB
  rw [decide_eq_false (by rintro rfl; exact h rfl), decide_eq_false (by rintro rfl; exact h rfl), decide_eq_false (by rintro rfl; exact h rfl), decide_eq_false (by rintro rfl; exact h rfl), decide_eq_false (by rintro rfl; exact h rfl)]
  rfl
theorem oper_one (c : UInt8) : decide (0 ≤ Lib.indexByte (⟨⟨[43, 45, 42, 47, 37]⟩⟩ : ByteArray).data.toList c) = operB ⟨⟨[c]⟩⟩ := by
  have e : ∀ d : UInt8, decide ((⟨⟨[c]⟩⟩ : ByteArray) = ⟨⟨[d]⟩⟩) = decide (c = d) := fun d => by rw [decide_eq_decide]; simp
  unfold operB
  rw [e, e, e, e, e]
  simp only [Lib.indexByte]
  by_cases h1 : c = 43
  · subst h1; decide
  · by_cases h2 : c = 45
    · subst h2; decide
    · by_cases h3 : c = 42
      · subst h3; decide
      · by_cases h4 : c = 47
        · subst h4; decide
        · by_cases h5 : c = 37
          · subst h5; decide
          · have f : ∀ d : UInt8, ¬ c = d → (d == c) = false := fun d h => by rw [beq_eq_false_iff_ne]; exact fun e => h e.symm
            simp [h1, h2, h3, h4, h5, f 43 h1, f 45 h2, f 42 h3, f 47 h4, f 37 h5]
theorem oper_ok (s : ByteArray) : Fun Try.prog 73 [.str s] (.bool (operB s)) := by
  by_cases h1 : s.size = 1
  · obtain ⟨c, rfl⟩ : ∃ c, s = ⟨⟨[c]⟩⟩ := by
      obtain ⟨⟨l⟩⟩ := s
      match l, h1 with
      | [c], _ => exact ⟨c, rfl⟩
    refine Fun.of (op_name_Operator (by simp) ?_) rfl rfl
    conv => whnf
    conv => whnf
    repeat' ((first | (refine gF ?_; refine CallN.fn (contains_ok _ _) ?_) | (refine gC ?_; (refine gD ?_; refine cI ?_)) | refine RetP.nrm ?_) <;> conv => whnf)
    all_goals (refine congrArg AV.bool ?_; exact oper_one c)
  · refine Fun.of (op_name_Operator (by simp) ?_) rfl rfl
    conv => whnf
    conv => whnf
    repeat' ((first | (refine gC ?_; (refine gD ?_; refine cJ ?_)) | refine RetP.nrm ?_) <;> conv => whnf)
    all_goals (refine congrArg AV.bool ?_; exact (oper_no h1).symm)
theorem lower_ok (c : Nat) : Fun Try.prog 70 [.int .u8 (c : Int)] (.bool (decide (97 ≤ c ∧ c ≤ 122))) := by
  refine Fun.of (op_constraintref02_lower (by simp) ?_) rfl rfl
  conv => whnf
  conv => whnf
  repeat' ((first | (refine gC ?_; first | (refine gD ?_; first | refine cI ?_ | refine cJ ?_) | refine CondN.le (fun hc => ?_) (fun hc => ?_)) | refine RetP.nrm ?_) <;> conv => whnf)
  all_goals (refine congrArg AV.bool ?_; first | rfl | (rw [decide_eq_decide]; omega) | (symm; rw [decide_eq_true_iff]; omega) | (symm; rw [decide_eq_false_iff_not]; omega))
theorem upper_ok (c : Nat) : Fun Try.prog 79 [.int .u8 (c : Int)] (.bool (decide (65 ≤ c ∧ c ≤ 90))) := by
  refine Fun.of (op_constraintref02_upper (by simp) ?_) rfl rfl
  conv => whnf
  conv => whnf
  repeat' ((first | (refine gC ?_; first | (refine gD ?_; first | refine cI ?_ | refine cJ ?_) | refine CondN.le (fun hc => ?_) (fun hc => ?_)) | refine RetP.nrm ?_) <;> conv => whnf)
  all_goals (refine congrArg AV.bool ?_; first | rfl | (rw [decide_eq_decide]; omega) | (symm; rw [decide_eq_true_iff]; omega) | (symm; rw [decide_eq_false_iff_not]; omega))
theorem reserved2_ok (s : ByteArray) : Fun Try.prog 71 [.str s] (.bool (resB s)) := by
  refine Fun.of (op_constraintref02_Reserved (by simp) ?_) rfl rfl
  conv => whnf
  conv => whnf
  repeat' ((first | (refine gC ?_; first | refine cY ?_ | (refine gD ?_; first | refine cI ?_ | refine cJ ?_) | refine CondN.dec (fun hc => ?_) (fun hc => ?_)) | refine RetP.nrm ?_) <;> conv => whnf)
  all_goals (simp [resB, *])
theorem oper2_ok (s : ByteArray) : Fun Try.prog 59 [.str s] (.bool (operB s)) := by
  refine Fun.of (op_constraintref02_Operator (by simp) ?_) rfl rfl
  conv => whnf
  conv => whnf
  repeat' ((first | (refine gC ?_; first | refine cY ?_ | (refine gD ?_; first | refine cI ?_ | refine cJ ?_) | refine CondN.dec (fun hc => ?_) (fun hc => ?_)) | refine RetP.nrm ?_) <;> conv => whnf)
  all_goals (simp [operB, *])
theorem get_opt {s : ByteArray} {j : Nat} (h : j < s.size) : s[j]? = some (s.get! j) := by
  rw [getElem?_pos s j h]
  congr 1
  exact (getElem!_pos s.data j h).symm
theorem cls_cases (c : Nat) : (clsN c = 0 ∧ (¬ (97 ≤ c ∧ c ≤ 122) ∧ ¬ (65 ≤ c ∧ c ≤ 90) ∧ ¬ c = 95 ∧ ¬ (48 ≤ c ∧ c ≤ 57))) ∨ (clsN c ≠ 0 ∧ ((97 ≤ c ∧ c ≤ 122) ∨ (65 ≤ c ∧ c ≤ 90) ∨ c = 95 ∨ (48 ≤ c ∧ c ≤ 57))) := by
  unfold clsN
  by_cases h1 : 97 ≤ c ∧ c ≤ 122
  · exact .inr ⟨by rw [if_pos h1]; decide, .inl h1⟩
  · by_cases h2 : (65 ≤ c ∧ c ≤ 90) ∨ c = 95
    · exact .inr ⟨by rw [if_neg h1, if_pos h2]; decide, h2.elim (fun h => .inr (.inl h)) fun h => .inr (.inr (.inl h))⟩
    · by_cases h3 : 48 ≤ c ∧ c ≤ 57
      · exact .inr ⟨by rw [if_neg h1, if_neg h2, if_pos h3]; decide, .inr (.inr (.inr h3))⟩
      · exact .inl ⟨by rw [if_neg h1, if_neg h2, if_neg h3], h1, fun h => h2 (.inl h), fun h => h2 (.inr h), h3⟩
set_option maxRecDepth 100000 in
theorem word2_ok (s : ByteArray) : Fun Try.prog 69 [.str s] (.bool (wordB s)) := by
  refine Fun.assume rfl fun hg0 => ?_
  have hsz : s.size ≤ 9223372036854775807 := good_str (hg0 (.str s) (by simp))
  refine Fun.of (op_constraintref02_word (by simp) ?_) rfl rfl
  conv => whnf
  conv => whnf
  skip
  refine LoopP.by (fb := true) (fun _ (j : Nat) => ⟨[(0, .str s), (3, .int .i64 (j : Int))], [], 0⟩) (fun j => j ≤ s.size ∧ ∀ i, i < j → clsN (s.get! i).toNat ≠ 0) (fun j => s.size - j) 0 ⟨Nat.zero_le _, fun i h => by omega⟩ ?_ ?_
  · refine EndN.at_ ?_ rfl
    conv => whnf
    refine And.intro ?_ ?_ <;> conv => whnf
    all_goals repeat' ((first | (refine gV ?_; first | refine vE ?_ | refine vI ?_) | exact True.intro) <;> conv => whnf)
  · rintro j ⟨q1, q2⟩
    by_cases hj : j < s.size
    · obtain ⟨y, hy⟩ : ∃ y, y = s.get! j := ⟨_, rfl⟩
      have hx : s[((j : Nat) : Int).toNat]? = some y := by rw [Int.toNat_natCast, hy]; exact get_opt hj
      have hbad : clsN y.toNat = 0 → false = wordB s := fun h => by
        unfold wordB; symm; rw [decide_eq_false_iff_not]
        rintro ⟨_, _, h3⟩
        exact h3 j hj (by rw [← hy]; exact h)
      obtain ⟨c, hcy⟩ : ∃ c, c = y.toNat := ⟨_, rfl⟩
      rw [← hcy] at hbad
      rcases cls_cases c with ⟨hc, h1⟩ | ⟨hc, h1⟩
      · conv => whnf
        repeat' ((first | (refine gF ?_; first | refine CallN.fn (lower_ok _) ?_ | refine CallN.fn (upper_ok _) ?_) | (refine gC ?_; first | refine cY ?_ | refine .not ?_ | (refine gD ?_; first | refine cI ?_ | refine cJ ?_) | refine CondN.lt (fun hc => ?_) (fun hc => ?_)) | refine RetP.nrm ?_ | (refine gIs ?_; refine iS ?_)) <;> conv => whnf)
        all_goals (exact congrArg AV.bool (hbad (by assumption)))
      · conv => whnf
        repeat' ((first | (refine gF ?_; first | refine CallN.fn (lower_ok _) ?_ | refine CallN.fn (upper_ok _) ?_) | (refine gC ?_; first | refine cN ?_ | refine .not ?_ | (refine gD ?_; first | refine cI ?_ | refine cJ ?_) | refine CondN.lt (fun hc => ?_) (fun hc => ?_) | refine CondN.dec (fun hc => ?_) (fun hc => ?_)) | (refine gW ?_; refine wI ?_) | (refine gIs ?_; refine iS ?_)) <;> conv => whnf)
        all_goals
          refine ⟨j + 1, ⟨⟨hj, fun i hi => ?_⟩, by omega⟩, ?_⟩
          · rcases Nat.lt_or_ge i j with h3 | h3
            · exact q2 i h3
            · obtain rfl : i = j := by omega
              rw [← hy, ← hcy]; assumption
          refine EndN.at_ ?_ rfl
          conv => whnf
          refine And.intro ?_ ?_ <;> conv => whnf
          all_goals repeat' ((first | (refine gV ?_; first | refine vE ?_ | refine vI ?_) | exact True.intro) <;> conv => whnf)
    · have hall : wordB s = decide (1 ≤ s.size ∧ s.size ≤ 40) := by
        unfold wordB; rw [decide_eq_decide]
        exact ⟨fun h => ⟨h.1, h.2.1⟩, fun h => ⟨h.1, h.2, fun i hi => q2 i (by omega)⟩⟩
      rw [hall]
      conv => whnf
      repeat' ((first | (refine gC ?_; first | (refine gD ?_; first | refine cI ?_ | refine cJ ?_) | refine CondN.le (fun hc => ?_) (fun hc => ?_)) | refine RetP.nrm ?_) <;> conv => whnf)
      all_goals (refine congrArg AV.bool ?_; first | rfl | (rw [decide_eq_decide]; omega) | (symm; rw [decide_eq_true_iff]; omega) | (symm; rw [decide_eq_false_iff_not]; omega))
end Go.CK

