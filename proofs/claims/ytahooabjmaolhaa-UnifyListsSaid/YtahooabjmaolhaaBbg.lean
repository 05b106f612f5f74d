/-
  Texts of this claim joined (wip/gen/bundle.py), those declarations only that are needed: UrJ UrK FunC Read RdUni. By an AI agent.
-/
import Derived.Test.YtahooabjmaolhaaBbf
import Derived.Test.YtahooabjmaolhaaBbc
import Derived.Test.YtahooabjmaolhaaBaq
import Derived.Test.YtahooabjmaolhaaRows
import Derived.Test.YtahooabjmaolhaaBaa
import Derived.ProofKit
import Derived.OpenShut
import Derived.ShutString
import Derived.ChangeOld
import Derived.JoinedCond
import Derived.Deep.Slices
import Derived.Lib.SmallJoins
set_option linter.unusedSimpArgs false
set_option linter.unusedVariables false
namespace Go.CK
open Go.AM Go.Proofs
def solveR (f : Nat) (a b : List Tm) : Option (List Bnd × Int) := match runR f rg0 (a.zip b) with
 | none => none
 | some (_, false) => some ([], 13)
 | some (g, true) => solR g
theorem RW.rk {g : Rg} (h : RW g) (hl : g.nodes.length ≤ 4000000000) : RK g := ⟨h.len, hl, fun i x hx => kids_six h.nds hx, fun i x hx h1 => (form_var (h.nds.frm i x hx) h1).1⟩
theorem nodesS_pre {g : Rg} {m : List (Int × Int)} : ∀ {n : Nat} {r : Option (List Bnd)}, nodesS g m n = some r -> ∀ i, i ≤ n -> ∃ r', nodesS g m i = some r' ∧ (r' = none -> r = none)
 | 0, r, h, i, hi => by
  obtain rfl : i = 0 := by omega
  exact ⟨_, h, id⟩
 | n + 1, r, h, i, hi => by
  by_cases e : i = n + 1
  ·subst e; exact ⟨_, h, id⟩
  ·rw [nodesS] at h; split at h
   ·cases h
   ·rename_i h1; cases h; obtain ⟨r', h2, _⟩ := nodesS_pre h1 i (by omega)
    exact ⟨r', h2, fun _ => rfl⟩
   ·rename_i out h1; obtain ⟨r', h2, h3⟩ := nodesS_pre h1 i (by omega)
    refine ⟨r', h2, fun e => ?_⟩; have := h3 e; cases this
theorem insB_len {x : Bnd} {l : List Bnd} : (insB x l).length = l.length + 1 := by
 have := insK_le x.v l; unfold insB; rw [List.length_append, List.length_cons, List.length_take, List.length_drop]; omega
theorem insB_av {v : Int} {t : Tm} {l : List Bnd} : (insB ⟨v, t⟩ l).map Bnd.av = (l.map Bnd.av).take (insK v l) ++ [Bnd.av ⟨v, t⟩] ++ (l.map Bnd.av).drop (insK v l) := by
 unfold insB; rw [List.map_append, List.map_cons, List.map_take, List.map_drop, List.append_assoc]; rfl
theorem takeM {α β : Type} (f : α -> β) (l : List α) : (l.map f).take l.length = l.map f := by rw [← List.map_take, List.take_length]
set_option maxHeartbeats 8000000 in
set_option maxRecDepth 100000 in
theorem solve_k {f : Nat} {a b : List Tm} {out : List Bnd} {e : Int} (h : solveR f a b = some (out, e)) (hl : a.length = b.length) (hfa : ∀ x ∈ a, x.form = true) (hfb : ∀ x ∈ b, x.form = true) (hN : Tm.nodess a + Tm.nodess b ≤ 100000) (hf : 100000 < f) : Fun Try.prog 30 [.sl .no (a.map Tm.av), .sl .no (b.map Tm.av)] (.tup [.sl .no (out.map Bnd.av), .int .i64 e]) := by
 have hla := nodess_len a; have hlb := nodess_len b; unfold solveR at h
 cases hR : runR f rg0 (a.zip b) with
 | none => rw [hR] at h; cases h
 | some gb =>
  obtain ⟨g, br⟩ := gb; rw [hR] at h; refine Fun.of (op_constraintref07_solve (by simp) ?_) rfl rfl
  conv => whnf
  conv => whnf
  skip; refine LoopP.by (fb := true) (fun _ (q : Nat × Rg × Nat) => ⟨[(0, .sl .no (a.map Tm.av)), (1, .sl .no (b.map Tm.av)), (6, .ptr 0 0), (7, .int .i64 (q.1 : Int))], rbs q.2.1.nodes q.2.1.cls q.2.2, 0⟩) (fun q => q.1 ≤ a.length ∧ runR f q.2.1 ((a.zip b).drop q.1) = some (g, br) ∧ RW q.2.1 ∧ Closed q.2.1.nodes q.2.1.R [] ∧ q.2.1.cls.length ≤ q.2.2 ∧ q.2.1.nodes.length ≤ Tm.nodess (a.take q.1) + Tm.nodess (b.take q.1)) (fun q => a.length - q.1) (0, rg0, 0) ⟨Nat.zero_le _, hR, rg0_rw, rg0_closed, Nat.le_refl _, Nat.zero_le _⟩ ?_ ?_
  ·refine EndN.claimB 0 0 4 (l := []) rfl (fun y hy => by cases hy) ?_
   conv => whnf
   refine EndN.toRowAt (.bx 0 1) rfl rfl ?_
   conv => whnf
   refine EndN.lay [some 0, some 1] oko ?_
   conv => whnf
   refine EndN.at_ ?_ rfl
   conv => whnf
   refine And.intro ?_ ?_ <;> conv => whnf
   all_goals repeat' ((first | (refine gV ?_; first | refine vE ?_ | refine vI ?_) | (refine gX ?_; (refine BxN.mk ?_ ?_; (focus (simp [AV.norm, AV.norm1, cellsOf, rg0]; done)))) | exact True.intro) <;> conv => whnf)
  ·rintro ⟨j, gj, cap⟩ ⟨q1, q2, q3, q4, hcap, q6⟩; dsimp only at q1 q2 q3 q4 hcap q6 ⊢
   by_cases hj : j < a.length
   ·obtain ⟨x, hx⟩ : ∃ x, a[j]? = some x := ⟨_, List.getElem?_eq_getElem hj⟩; obtain ⟨y, hy⟩ : ∃ y, b[j]? = some y := ⟨_, List.getElem?_eq_getElem (by omega)⟩
    have hz : (a.zip b)[j]? = some (x, y) := List.getElem?_zip_eq_some.2 ⟨hx, hy⟩; have hzl : j < (a.zip b).length := (List.getElem?_eq_some_iff.1 hz).1; rw [List.drop_eq_getElem_cons hzl, (List.getElem?_eq_some_iff.1 hz).2, runR] at q2; have hxr := hfa x (List.mem_of_getElem? hx); have hyr := hfb y (List.mem_of_getElem? hy); have hta := nodess_take a hx; have htb := nodess_take b hy; have htk : a.take (j + 1) = a.take j ++ [x] := by rw [List.take_add_one, hx]; rfl
    have htk2 : b.take (j + 1) = b.take j ++ [y] := by rw [List.take_add_one, hy]; rfl
    have hjl := q3.len; have hjb : j < b.length := by omega
    obtain ⟨a1, n1, a2, a3⟩ := entT_law x q3 q4 hxr; have l1 := entT_len gj x; obtain ⟨b1, n2, b2, b3⟩ := entT_law y a1.gw a1.cl hyr; have l2 := entT_len (entT gj x).1 y; have hx2 := b1.old _ _ a2; have hcls := clsR_le (entT (entT gj x).1 y).1; have hlen2 := b1.gw.len; have hlen1 := a1.gw.len; have hwx := (List.getElem?_eq_some_iff.1 hx2).1; have hwy := (List.getElem?_eq_some_iff.1 b2).1
    obtain ⟨g3, b3', e1, e2, e3, e4, e5⟩ := joinR_law f (entT (entT gj x).1 y).1 [] (entT gj x).2 (entT (entT gj x).1 y).2 b1.gw (closed_more b1.cl) (fun p hp => by
     rw [List.mem_singleton] at hp; subst hp; exact ⟨hwx, hwy⟩) (by omega)
    rw [e1] at q2; have hrk2 := b1.gw.rk (by omega)
    have hadd := enter_k x (form_vok x hxr) gj cap hcap (by omega) (by omega)
    have hadd2 := fun cp hcp => enter_k y (form_vok y hyr) (entT gj x).1 cp hcp (by omega) (by omega)
    have hjo := fun cp hcp => join_k (cap := cp) f e1 hcp hrk2.len hrk2.lim hrk2.six; unfold entPost at hadd hadd2; clear a2 a3 b2 b3 hx2 e5 hrk2 hcls hwx hwy; generalize entT gj x = gx at *; obtain ⟨g1, k1⟩ := gx; dsimp only at *; generalize entT g1 y = gy at *; obtain ⟨g2, k2⟩ := gy; dsimp only at *
    conv => whnf
    repeat' ((first | (refine gC ?_; (refine gD ?_; refine cI ?_)) | (refine gL ?_; refine .map ?_) | (refine gI ?_; (refine gT ?_; refine iA ?_))) <;> conv => whnf)
    refine CallN.at [0, 1] hadd rfl rfl ?_ oko ?_
    ·rintro r bs' ⟨rfl, cp, hcp, rfl⟩; exact ⟨rfl, rfl, oko⟩
    rintro r bs' ⟨rfl, cp, hcp, rfl⟩
    conv => whnf
    repeat' ((refine gI ?_; (refine gT ?_; refine iA ?_)) <;> conv => whnf)
    refine CallN.at [0, 2] (hadd2 cp hcp) rfl rfl ?_ oko ?_
    ·rintro r bs' ⟨rfl, cp, hcp, rfl⟩; exact ⟨rfl, rfl, oko⟩
    rintro r bs' ⟨rfl, cp2, hcp2, rfl⟩
    conv => whnf
    skip; refine CallN.ate [0, 3] (hjo cp2 hcp2) rfl rfl ?_
    cases b3' with
    | false =>
     cases q2; cases h
     conv => whnf
     repeat' ((refine gC ?_; first | refine cN ?_ | refine .not ?_) <;> conv => whnf)
     refine RetP.lay [] oko ?_
     conv => whnf
     conv => whnf
     repeat' (refine RetP.nrm ?_ <;> conv => whnf)
     all_goals rfl
    | true =>
     simp only at q2; obtain ⟨w1, w2, _, _⟩ := e4 rfl
     conv => whnf
     repeat' ((first | (refine gC ?_; first | refine cY ?_ | refine .not ?_) | (refine gW ?_; refine wI ?_)) <;> conv => whnf)
     refine ⟨(j + 1, g3, cp2), ⟨⟨hj, q2, w1, w2, by show g3.cls.length ≤ cp2; omega, ?_⟩, by show _ - (j + 1) < _ - j; omega⟩, ?_⟩
     ·show g3.nodes.length ≤ Tm.nodess (a.take (j + 1)) + Tm.nodess (b.take (j + 1)); rw [e2, htk, htk2, nodess_snoc, nodess_snoc]; omega
     dsimp only; refine EndN.lay [some 0, some 3] oko ?_
     conv => whnf
     exact endz
   ·obtain rfl : j = a.length := by omega
    rw [List.drop_of_length_le (by rw [List.length_zip]; omega), runR] at q2
    cases q2; simp only at h; rw [List.take_of_length_le (Nat.le_refl _), List.take_of_length_le (by omega)] at q6
    have hrk := q3.rk (by omega)
    have hll := q3.len; unfold solR at h
    cases hme : measR g with
    | none => rw [hme] at h; cases h
    | some mo =>
    rw [hme] at h; have hmk := measured_k hcap hrk hme; unfold mesPost at hmk
    cases mo with
    | none =>
     cases h
     conv => whnf
     repeat' ((first | (refine gF ?_; refine CallN.to (hmk) ?_) | (refine gC ?_; first | refine cN ?_ | refine .not ?_ | (refine gD ?_; refine cJ ?_)) | (refine gL ?_; refine .map ?_)) <;> conv => whnf)
     refine RetP.lay [] oko ?_
     conv => whnf
     conv => whnf
     repeat' (refine RetP.nrm ?_ <;> conv => whnf)
     all_goals rfl
    | some m =>
    simp only at h
    cases hS : nodesS g m g.nodes.length with
    | none => rw [hS] at h; cases h
    | some so =>
    rw [hS] at h
    conv => whnf
    repeat' ((first | (refine gF ?_; refine CallN.to (hmk) ?_) | (refine gC ?_; first | refine cY ?_ | refine .not ?_ | (refine gD ?_; refine cJ ?_)) | (refine gL ?_; refine .map ?_)) <;> conv => whnf)
    refine LoopP.by (fb := true) (fun _ (q : Nat × List Bnd) => ⟨[(6, .ptr 0 0), (10, .sl .no (m.map msA)), (12, .sl .no (q.2.map Bnd.av)), (13, .int .i64 (q.1 : Int))], rbs g.nodes g.cls cap, 0⟩) (fun q => q.1 ≤ g.nodes.length ∧ nodesS g m q.1 = some (some q.2) ∧ q.2.length ≤ q.1) (fun q => g.nodes.length - q.1) (0, []) ⟨Nat.zero_le _, rfl, Nat.le_refl _⟩ ?_ ?_
    ·refine EndN.at_ ?_ rfl
     conv => whnf
     refine And.intro ?_ ?_ <;> conv => whnf
     all_goals repeat' ((first | (refine gV ?_; first | refine vE ?_ | refine vI ?_ | (refine WkN.norm ?_ ?_; (focus (simp [AV.norm, AV.norm1, ]; done)))) | (refine gX ?_; refine xB ?_) | exact True.intro) <;> conv => whnf)
    ·rintro ⟨i, out'⟩ ⟨r1, r2, r3⟩; dsimp only at r1 r2 r3 ⊢
     by_cases hi : i < g.nodes.length
     ·obtain ⟨r', hr3, hnone⟩ := nodesS_pre hS (i + 1) (by omega)
      have hst := hr3; rw [nodesS, r2] at hst; simp only at hst; rw [nodeS] at hst
      cases hx : g.nodes[i]? with
      | none => rw [hx] at hst; cases hst
      | some x =>
      cases hc : g.cls[i]? with
      | none => rw [hx, hc] at hst; cases hst
      | some c =>
      rw [hx, hc] at hst; simp only at hst; have hs := shape_k (c := c) hcap hrk.len hrk.lim; have hle := least_k (c := c) hcap hrk.len hrk.lim hrk.pos
      by_cases hk1 : x.t.kind = 1
      rotate_left
      ·rw [if_pos (.inl hk1)] at hst; cases hst
       conv => whnf
       repeat' ((first | (refine gC ?_; first | refine cY ?_ | refine .not ?_ | (refine gD ?_; first | refine cI ?_ | refine cJ ?_)) | (refine gW ?_; refine wI ?_) | (refine gL ?_; refine .map ?_) | (refine gN ?_; refine nS ?_) | (refine gI ?_; (refine gM ?_; refine iE ?_)) | (refine gE ?_; refine eLn ?_) | (refine gPr ?_; refine pE ?_)) <;> conv => whnf)
       refine ⟨(i + 1, out'), ⟨⟨hi, hr3, by show out'.length ≤ i + 1; omega⟩, by show _ - (i + 1) < _ - i; omega⟩, ?_⟩
       exact endz
      ·cases hsc : g.shape c with
       | none =>
        rw [hsc, show oiN none = -1 from rfl] at hs
        by_cases hlv : oiI (g.le c) = x.t.num
        ·rw [if_pos (.inr ⟨hsc, hlv⟩)] at hst
         conv => whnf
         repeat' ((first | (refine gC ?_; first | refine .not ?_ | (refine gD ?_; refine cI ?_)) | (refine gL ?_; refine .map ?_) | (refine gN ?_; refine nS ?_) | (refine gI ?_; (refine gM ?_; refine iE ?_)) | (refine gE ?_; refine eLn ?_)) <;> conv => whnf)
         refine CallN.ate [0, 1] hs rfl rfl ?_
         conv => whnf
         repeat' ((first | (refine gC ?_; first | refine .not ?_ | (refine gD ?_; refine cI ?_)) | (refine gI ?_; (refine gM ?_; refine iE ?_))) <;> conv => whnf)
         refine CallN.ate [0, 1] hle rfl rfl ?_; cases hst
         conv => whnf
         repeat' ((first | (refine gC ?_; first | refine .not ?_ | (refine gD ?_; refine cI ?_)) | (refine gW ?_; refine wI ?_) | (refine gPr ?_; refine pE ?_)) <;> conv => whnf)
         refine ⟨(i + 1, out'), ⟨⟨hi, hr3, by show out'.length ≤ i + 1; omega⟩, by show _ - (i + 1) < _ - i; omega⟩, ?_⟩
         exact endz
        ·have hns : ¬ (¬ x.t.kind = 1 ∨ (g.shape c = none ∧ oiI (g.le c) = x.t.num)) := fun e => e.elim (fun e => e hk1) fun e => hlv e.2
         conv => whnf
         repeat' ((first | (refine gC ?_; first | refine .not ?_ | (refine gD ?_; refine cI ?_)) | (refine gL ?_; refine .map ?_) | (refine gN ?_; refine nS ?_) | (refine gI ?_; (refine gM ?_; refine iE ?_)) | (refine gE ?_; refine eLn ?_)) <;> conv => whnf)
         refine CallN.ate [0, 1] hs rfl rfl ?_
         conv => whnf
         repeat' ((first | (refine gC ?_; first | refine .not ?_ | (refine gD ?_; refine cI ?_)) | (refine gI ?_; (refine gM ?_; refine iE ?_))) <;> conv => whnf)
         refine CallN.ate [0, 1] hle rfl rfl ?_; rw [if_neg hns] at hst
         cases hy : m[c]? with
         | none => rw [hy] at hst; cases hst
         | some y =>
         rw [hy] at hst; simp only at hst; have hcm := (List.getElem?_eq_some_iff.1 hy).1
         by_cases hbig : 200 < y.1 ∨ 20 < y.2
         ·rw [if_pos hbig] at hst; cases hst; cases hnone rfl; cases h; rcases Decidable.em (200 < y.1) with hb1 | hb1
          ·conv => whnf
           repeat' ((first | (refine gC ?_; first | refine cY ?_ | refine .not ?_ | (refine gD ?_; first | refine cI ?_ | refine cJ ?_)) | (refine gI ?_; (refine gM ?_; refine iE ?_)) | (refine gPr ?_; refine pE ?_)) <;> conv => whnf)
           refine RetP.lay [] oko ?_
           conv => whnf
           conv => whnf
           repeat' (refine RetP.nrm ?_ <;> conv => whnf)
           all_goals rfl
          ·have hb2 : 20 < y.2 := hbig.resolve_left hb1
           conv => whnf
           repeat' ((first | (refine gC ?_; first | refine .not ?_ | (refine gD ?_; first | refine cI ?_ | refine cJ ?_)) | (refine gI ?_; (refine gM ?_; refine iE ?_)) | (refine gPr ?_; refine pE ?_)) <;> conv => whnf)
           refine RetP.lay [] oko ?_
           conv => whnf
           conv => whnf
           repeat' (refine RetP.nrm ?_ <;> conv => whnf)
           all_goals rfl
         ·rw [if_neg hbig] at hst; have hb1 : ¬ 200 < y.1 := fun e => hbig (.inl e); have hb2 : ¬ 20 < y.2 := fun e => hbig (.inr e)
          cases ht : termR g 20 c with
          | none => rw [ht] at hst; cases hst
          | some t =>
          rw [ht] at hst; cases hst; have htk := term_k hcap hrk 20 ht; unfold trmPost at htk
          conv => whnf
          repeat' ((first | (refine gC ?_; first | refine .not ?_ | (refine gD ?_; first | refine cI ?_ | refine cJ ?_)) | (refine gI ?_; (refine gM ?_; refine iE ?_)) | refine BothN.mk ?_ ?_ | (refine gPr ?_; refine pE ?_)) <;> conv => whnf)
          ·refine CallN.ate [0, 1] htk rfl rfl ?_
           conv => whnf
           repeat' ((refine gPr ?_; refine pT ?_) <;> conv => whnf)
           refine LoopP.by (fb := true) (fun _ (k : Nat) => ⟨[(6, .ptr 0 0), (10, .sl .no (m.map msA)), (12, .sl .no (out'.map Bnd.av)), (13, .int .i64 (i : Int)), (15, .ptr 2 0), (16, .sl .full []), (17, .int .i64 (k : Int))], rbs g.nodes g.cls cap ++ [.cells [.int .i64 x.t.num, .int .i64 t.kind, .int .i64 t.num, .str t.name, .sl .no (t.args.map Tm.av)]], 0⟩) (fun k => k ≤ out'.length ∧ ∀ j b, out'[j]? = some b -> j < k -> b.v < x.t.num) (fun k => out'.length - k) 0 ⟨Nat.zero_le _, fun j b _ h => absurd h (Nat.not_lt_zero _)⟩ ?_ ?_
           ·refine EndN.lay [some 0, some 1, some 2] oko ?_
            conv => whnf
            exact endz
           ·rintro k ⟨k1, k2⟩
            by_cases hk1 : k < out'.length
            ·obtain ⟨b, hb⟩ : ∃ b, out'[k]? = some b := ⟨_, List.getElem?_eq_getElem hk1⟩
             by_cases hlt : b.v < x.t.num
             ·conv => whnf
              repeat' ((first | (refine gC ?_; (refine gD ?_; refine cI ?_)) | (refine gW ?_; refine wI ?_) | (refine gL ?_; refine .map ?_) | (refine gI ?_; (refine gM ?_; refine iE ?_))) <;> conv => whnf)
              refine ⟨k + 1, ⟨⟨hk1, fun j b' hb' hj => ?_⟩, by omega⟩, ?_⟩
              ·by_cases e : j = k
               ·subst e; rw [hb] at hb'; cases hb'; exact hlt
               ·exact k2 j b' hb' (by omega)
              exact endz
             ·have hik : insK x.t.num out' = k := insK_eq k1 k2 fun b' hb' => by rw [hb] at hb'; cases hb'; exact hlt
              conv => whnf
              repeat' ((first | (refine gC ?_; (refine gD ?_; first | refine cI ?_ | refine cJ ?_)) | (refine gW ?_; refine wI ?_) | (refine gL ?_; refine .map ?_) | (refine gN ?_; refine nS ?_) | (refine gI ?_; (refine gM ?_; refine iE ?_))) <;> conv => whnf)
              refine ⟨(i + 1, insB ⟨x.t.num, t⟩ out'), ⟨⟨hi, hr3, by rw [insB_len]; omega⟩, by show _ - (i + 1) < _ - i; omega⟩, ?_⟩
              dsimp only; rw [insB_av, hik]; refine EndN.lay [some 0, some 1] oko ?_
              conv => whnf
              refine EndN.at_ ?_ rfl
              conv => whnf
              refine And.intro ?_ ?_ <;> conv => whnf
              all_goals repeat' ((first | (refine gV ?_; first | refine vE ?_ | refine vI ?_ | (refine WkN.norm ?_ ?_; (focus (simp [AV.norm, AV.norm1, takeM, Bnd.av]; done)))) | (refine gX ?_; refine xB ?_) | exact True.intro) <;> conv => whnf)
            ·obtain rfl : k = out'.length := by omega
             have hik : insK x.t.num out' = out'.length := insK_eq k1 k2 fun b' hb' => by simp at hb'
             conv => whnf
             repeat' ((first | (refine gC ?_; first | refine cN ?_ | (refine gD ?_; refine cJ ?_)) | (refine gW ?_; refine wI ?_) | (refine gL ?_; refine .map ?_) | (refine gN ?_; refine nS ?_)) <;> conv => whnf)
             refine ⟨(i + 1, insB ⟨x.t.num, t⟩ out'), ⟨⟨hi, hr3, by rw [insB_len]; omega⟩, by show _ - (i + 1) < _ - i; omega⟩, ?_⟩
             dsimp only; rw [insB_av, hik]; refine EndN.lay [some 0, some 1] oko ?_
             conv => whnf
             refine EndN.at_ ?_ rfl
             conv => whnf
             refine And.intro ?_ ?_ <;> conv => whnf
             all_goals repeat' ((first | (refine gV ?_; first | refine vE ?_ | refine vI ?_ | (refine WkN.norm ?_ ?_; (focus (simp [AV.norm, AV.norm1, takeM, Bnd.av]; done)))) | (refine gX ?_; refine xB ?_) | exact True.intro) <;> conv => whnf)
          ·refine CallN.ate [0, 1] htk rfl rfl ?_
           conv => whnf
           repeat' ((refine gPr ?_; refine pT ?_) <;> conv => whnf)
           refine LoopP.by (fb := true) (fun _ (k : Nat) => ⟨[(6, .ptr 0 0), (10, .sl .no (m.map msA)), (12, .sl .no (out'.map Bnd.av)), (13, .int .i64 (i : Int)), (15, .ptr 2 0), (16, .sl .full []), (17, .int .i64 (k : Int))], rbs g.nodes g.cls cap ++ [.cells [.int .i64 x.t.num, .int .i64 t.kind, .int .i64 t.num, .str t.name, .sl .no (t.args.map Tm.av)]], 0⟩) (fun k => k ≤ out'.length ∧ ∀ j b, out'[j]? = some b -> j < k -> b.v < x.t.num) (fun k => out'.length - k) 0 ⟨Nat.zero_le _, fun j b _ h => absurd h (Nat.not_lt_zero _)⟩ ?_ ?_
           ·refine EndN.lay [some 0, some 1, some 3] oko ?_
            conv => whnf
            exact endz
           ·rintro k ⟨k1, k2⟩
            by_cases hk1 : k < out'.length
            ·obtain ⟨b, hb⟩ : ∃ b, out'[k]? = some b := ⟨_, List.getElem?_eq_getElem hk1⟩
             by_cases hlt : b.v < x.t.num
             ·conv => whnf
              repeat' ((first | (refine gC ?_; (refine gD ?_; refine cI ?_)) | (refine gW ?_; refine wI ?_) | (refine gL ?_; refine .map ?_) | (refine gI ?_; (refine gM ?_; refine iE ?_))) <;> conv => whnf)
              refine ⟨k + 1, ⟨⟨hk1, fun j b' hb' hj => ?_⟩, by omega⟩, ?_⟩
              ·by_cases e : j = k
               ·subst e; rw [hb] at hb'; cases hb'; exact hlt
               ·exact k2 j b' hb' (by omega)
              exact endz
             ·have hik : insK x.t.num out' = k := insK_eq k1 k2 fun b' hb' => by rw [hb] at hb'; cases hb'; exact hlt
              conv => whnf
              repeat' ((first | (refine gC ?_; (refine gD ?_; first | refine cI ?_ | refine cJ ?_)) | (refine gW ?_; refine wI ?_) | (refine gL ?_; refine .map ?_) | (refine gN ?_; refine nS ?_) | (refine gI ?_; (refine gM ?_; refine iE ?_))) <;> conv => whnf)
              refine ⟨(i + 1, insB ⟨x.t.num, t⟩ out'), ⟨⟨hi, hr3, by rw [insB_len]; omega⟩, by show _ - (i + 1) < _ - i; omega⟩, ?_⟩
              dsimp only; rw [insB_av, hik]; refine EndN.lay [some 0, some 1] oko ?_
              conv => whnf
              refine EndN.at_ ?_ rfl
              conv => whnf
              refine And.intro ?_ ?_ <;> conv => whnf
              all_goals repeat' ((first | (refine gV ?_; first | refine vE ?_ | refine vI ?_ | (refine WkN.norm ?_ ?_; (focus (simp [AV.norm, AV.norm1, takeM, Bnd.av]; done)))) | (refine gX ?_; refine xB ?_) | exact True.intro) <;> conv => whnf)
            ·obtain rfl : k = out'.length := by omega
             have hik : insK x.t.num out' = out'.length := insK_eq k1 k2 fun b' hb' => by simp at hb'
             conv => whnf
             repeat' ((first | (refine gC ?_; first | refine cN ?_ | (refine gD ?_; refine cJ ?_)) | (refine gW ?_; refine wI ?_) | (refine gL ?_; refine .map ?_) | (refine gN ?_; refine nS ?_)) <;> conv => whnf)
             refine ⟨(i + 1, insB ⟨x.t.num, t⟩ out'), ⟨⟨hi, hr3, by rw [insB_len]; omega⟩, by show _ - (i + 1) < _ - i; omega⟩, ?_⟩
             dsimp only; rw [insB_av, hik]; refine EndN.lay [some 0, some 1] oko ?_
             conv => whnf
             refine EndN.at_ ?_ rfl
             conv => whnf
             refine And.intro ?_ ?_ <;> conv => whnf
             all_goals repeat' ((first | (refine gV ?_; first | refine vE ?_ | refine vI ?_ | (refine WkN.norm ?_ ?_; (focus (simp [AV.norm, AV.norm1, takeM, Bnd.av]; done)))) | (refine gX ?_; refine xB ?_) | exact True.intro) <;> conv => whnf)
       | some k =>
        rw [hsc, show oiN (some k) = (k : Int) from rfl] at hs; have hns : ¬ (¬ x.t.kind = 1 ∨ (g.shape c = none ∧ oiI (g.le c) = x.t.num)) := fun e => e.elim (fun e => e hk1) fun e => by rw [hsc] at e; cases e.1
        conv => whnf
        repeat' ((first | (refine gC ?_; first | refine .not ?_ | (refine gD ?_; refine cI ?_)) | (refine gL ?_; refine .map ?_) | (refine gN ?_; refine nS ?_) | (refine gI ?_; (refine gM ?_; refine iE ?_)) | (refine gE ?_; refine eLn ?_)) <;> conv => whnf)
        refine CallN.ate [0, 1] hs rfl rfl ?_; rw [if_neg hns] at hst
        cases hy : m[c]? with
        | none => rw [hy] at hst; cases hst
        | some y =>
        rw [hy] at hst; simp only at hst; have hcm := (List.getElem?_eq_some_iff.1 hy).1
        by_cases hbig : 200 < y.1 ∨ 20 < y.2
        ·rw [if_pos hbig] at hst; cases hst; cases hnone rfl; cases h; rcases Decidable.em (200 < y.1) with hb1 | hb1
         ·conv => whnf
          repeat' ((first | (refine gC ?_; first | refine cY ?_ | refine cN ?_ | refine .not ?_ | (refine gD ?_; first | refine cI ?_ | refine cJ ?_)) | (refine gI ?_; (refine gM ?_; refine iE ?_)) | (refine gPr ?_; refine pE ?_)) <;> conv => whnf)
          refine RetP.lay [] oko ?_
          conv => whnf
          conv => whnf
          repeat' (refine RetP.nrm ?_ <;> conv => whnf)
          all_goals rfl
         ·have hb2 : 20 < y.2 := hbig.resolve_left hb1
          conv => whnf
          repeat' ((first | (refine gC ?_; first | refine cN ?_ | refine .not ?_ | (refine gD ?_; first | refine cI ?_ | refine cJ ?_)) | (refine gI ?_; (refine gM ?_; refine iE ?_)) | (refine gPr ?_; refine pE ?_)) <;> conv => whnf)
          refine RetP.lay [] oko ?_
          conv => whnf
          conv => whnf
          repeat' (refine RetP.nrm ?_ <;> conv => whnf)
          all_goals rfl
        ·rw [if_neg hbig] at hst; have hb1 : ¬ 200 < y.1 := fun e => hbig (.inl e); have hb2 : ¬ 20 < y.2 := fun e => hbig (.inr e)
         cases ht : termR g 20 c with
         | none => rw [ht] at hst; cases hst
         | some t =>
         rw [ht] at hst; cases hst; have htk := term_k hcap hrk 20 ht; unfold trmPost at htk
         conv => whnf
         repeat' ((first | (refine gC ?_; first | refine cN ?_ | refine .not ?_ | (refine gD ?_; first | refine cI ?_ | refine cJ ?_)) | (refine gI ?_; (refine gM ?_; refine iE ?_)) | refine BothN.mk ?_ ?_ | (refine gPr ?_; refine pE ?_)) <;> conv => whnf)
         ·refine CallN.ate [0, 1] htk rfl rfl ?_
          conv => whnf
          repeat' ((refine gPr ?_; refine pT ?_) <;> conv => whnf)
          refine LoopP.by (fb := true) (fun _ (k : Nat) => ⟨[(6, .ptr 0 0), (10, .sl .no (m.map msA)), (12, .sl .no (out'.map Bnd.av)), (13, .int .i64 (i : Int)), (15, .ptr 2 0), (16, .sl .full []), (17, .int .i64 (k : Int))], rbs g.nodes g.cls cap ++ [.cells [.int .i64 x.t.num, .int .i64 t.kind, .int .i64 t.num, .str t.name, .sl .no (t.args.map Tm.av)]], 0⟩) (fun k => k ≤ out'.length ∧ ∀ j b, out'[j]? = some b -> j < k -> b.v < x.t.num) (fun k => out'.length - k) 0 ⟨Nat.zero_le _, fun j b _ h => absurd h (Nat.not_lt_zero _)⟩ ?_ ?_
          ·refine EndN.lay [some 0, some 1, some 2] oko ?_
           conv => whnf
           exact endz
          ·rintro k ⟨k1, k2⟩
           by_cases hk1 : k < out'.length
           ·obtain ⟨b, hb⟩ : ∃ b, out'[k]? = some b := ⟨_, List.getElem?_eq_getElem hk1⟩
            by_cases hlt : b.v < x.t.num
            ·conv => whnf
             repeat' ((first | (refine gC ?_; (refine gD ?_; refine cI ?_)) | (refine gW ?_; refine wI ?_) | (refine gL ?_; refine .map ?_) | (refine gI ?_; (refine gM ?_; refine iE ?_))) <;> conv => whnf)
             refine ⟨k + 1, ⟨⟨hk1, fun j b' hb' hj => ?_⟩, by omega⟩, ?_⟩
             ·by_cases e : j = k
              ·subst e; rw [hb] at hb'; cases hb'; exact hlt
              ·exact k2 j b' hb' (by omega)
             exact endz
            ·have hik : insK x.t.num out' = k := insK_eq k1 k2 fun b' hb' => by rw [hb] at hb'; cases hb'; exact hlt
             conv => whnf
             repeat' ((first | (refine gC ?_; (refine gD ?_; first | refine cI ?_ | refine cJ ?_)) | (refine gW ?_; refine wI ?_) | (refine gL ?_; refine .map ?_) | (refine gN ?_; refine nS ?_) | (refine gI ?_; (refine gM ?_; refine iE ?_))) <;> conv => whnf)
             refine ⟨(i + 1, insB ⟨x.t.num, t⟩ out'), ⟨⟨hi, hr3, by rw [insB_len]; omega⟩, by show _ - (i + 1) < _ - i; omega⟩, ?_⟩
             dsimp only; rw [insB_av, hik]; refine EndN.lay [some 0, some 1] oko ?_
             conv => whnf
             refine EndN.at_ ?_ rfl
             conv => whnf
             refine And.intro ?_ ?_ <;> conv => whnf
             all_goals repeat' ((first | (refine gV ?_; first | refine vE ?_ | refine vI ?_ | (refine WkN.norm ?_ ?_; (focus (simp [AV.norm, AV.norm1, takeM, Bnd.av]; done)))) | (refine gX ?_; refine xB ?_) | exact True.intro) <;> conv => whnf)
           ·obtain rfl : k = out'.length := by omega
            have hik : insK x.t.num out' = out'.length := insK_eq k1 k2 fun b' hb' => by simp at hb'
            conv => whnf
            repeat' ((first | (refine gC ?_; first | refine cN ?_ | (refine gD ?_; refine cJ ?_)) | (refine gW ?_; refine wI ?_) | (refine gL ?_; refine .map ?_) | (refine gN ?_; refine nS ?_)) <;> conv => whnf)
            refine ⟨(i + 1, insB ⟨x.t.num, t⟩ out'), ⟨⟨hi, hr3, by rw [insB_len]; omega⟩, by show _ - (i + 1) < _ - i; omega⟩, ?_⟩
            dsimp only; rw [insB_av, hik]; refine EndN.lay [some 0, some 1] oko ?_
            conv => whnf
            refine EndN.at_ ?_ rfl
            conv => whnf
            refine And.intro ?_ ?_ <;> conv => whnf
            all_goals repeat' ((first | (refine gV ?_; first | refine vE ?_ | refine vI ?_ | (refine WkN.norm ?_ ?_; (focus (simp [AV.norm, AV.norm1, takeM, Bnd.av]; done)))) | (refine gX ?_; refine xB ?_) | exact True.intro) <;> conv => whnf)
         ·refine CallN.ate [0, 1] htk rfl rfl ?_
          conv => whnf
          repeat' ((refine gPr ?_; refine pT ?_) <;> conv => whnf)
          refine LoopP.by (fb := true) (fun _ (k : Nat) => ⟨[(6, .ptr 0 0), (10, .sl .no (m.map msA)), (12, .sl .no (out'.map Bnd.av)), (13, .int .i64 (i : Int)), (15, .ptr 2 0), (16, .sl .full []), (17, .int .i64 (k : Int))], rbs g.nodes g.cls cap ++ [.cells [.int .i64 x.t.num, .int .i64 t.kind, .int .i64 t.num, .str t.name, .sl .no (t.args.map Tm.av)]], 0⟩) (fun k => k ≤ out'.length ∧ ∀ j b, out'[j]? = some b -> j < k -> b.v < x.t.num) (fun k => out'.length - k) 0 ⟨Nat.zero_le _, fun j b _ h => absurd h (Nat.not_lt_zero _)⟩ ?_ ?_
          ·refine EndN.lay [some 0, some 1, some 3] oko ?_
           conv => whnf
           exact endz
          ·rintro k ⟨k1, k2⟩
           by_cases hk1 : k < out'.length
           ·obtain ⟨b, hb⟩ : ∃ b, out'[k]? = some b := ⟨_, List.getElem?_eq_getElem hk1⟩
            by_cases hlt : b.v < x.t.num
            ·conv => whnf
             repeat' ((first | (refine gC ?_; (refine gD ?_; refine cI ?_)) | (refine gW ?_; refine wI ?_) | (refine gL ?_; refine .map ?_) | (refine gI ?_; (refine gM ?_; refine iE ?_))) <;> conv => whnf)
             refine ⟨k + 1, ⟨⟨hk1, fun j b' hb' hj => ?_⟩, by omega⟩, ?_⟩
             ·by_cases e : j = k
              ·subst e; rw [hb] at hb'; cases hb'; exact hlt
              ·exact k2 j b' hb' (by omega)
             exact endz
            ·have hik : insK x.t.num out' = k := insK_eq k1 k2 fun b' hb' => by rw [hb] at hb'; cases hb'; exact hlt
             conv => whnf
             repeat' ((first | (refine gC ?_; (refine gD ?_; first | refine cI ?_ | refine cJ ?_)) | (refine gW ?_; refine wI ?_) | (refine gL ?_; refine .map ?_) | (refine gN ?_; refine nS ?_) | (refine gI ?_; (refine gM ?_; refine iE ?_))) <;> conv => whnf)
             refine ⟨(i + 1, insB ⟨x.t.num, t⟩ out'), ⟨⟨hi, hr3, by rw [insB_len]; omega⟩, by show _ - (i + 1) < _ - i; omega⟩, ?_⟩
             dsimp only; rw [insB_av, hik]; refine EndN.lay [some 0, some 1] oko ?_
             conv => whnf
             refine EndN.at_ ?_ rfl
             conv => whnf
             refine And.intro ?_ ?_ <;> conv => whnf
             all_goals repeat' ((first | (refine gV ?_; first | refine vE ?_ | refine vI ?_ | (refine WkN.norm ?_ ?_; (focus (simp [AV.norm, AV.norm1, takeM, Bnd.av]; done)))) | (refine gX ?_; refine xB ?_) | exact True.intro) <;> conv => whnf)
           ·obtain rfl : k = out'.length := by omega
            have hik : insK x.t.num out' = out'.length := insK_eq k1 k2 fun b' hb' => by simp at hb'
            conv => whnf
            repeat' ((first | (refine gC ?_; first | refine cN ?_ | (refine gD ?_; refine cJ ?_)) | (refine gW ?_; refine wI ?_) | (refine gL ?_; refine .map ?_) | (refine gN ?_; refine nS ?_)) <;> conv => whnf)
            refine ⟨(i + 1, insB ⟨x.t.num, t⟩ out'), ⟨⟨hi, hr3, by rw [insB_len]; omega⟩, by show _ - (i + 1) < _ - i; omega⟩, ?_⟩
            dsimp only; rw [insB_av, hik]; refine EndN.lay [some 0, some 1] oko ?_
            conv => whnf
            refine EndN.at_ ?_ rfl
            conv => whnf
            refine And.intro ?_ ?_ <;> conv => whnf
            all_goals repeat' ((first | (refine gV ?_; first | refine vE ?_ | refine vI ?_ | (refine WkN.norm ?_ ?_; (focus (simp [AV.norm, AV.norm1, takeM, Bnd.av]; done)))) | (refine gX ?_; refine xB ?_) | exact True.intro) <;> conv => whnf)
     ·obtain rfl : i = g.nodes.length := by omega
      rw [hS] at r2; cases r2; cases h
      conv => whnf
      repeat' ((first | (refine gC ?_; (refine gD ?_; refine cJ ?_)) | (refine gL ?_; refine .map ?_)) <;> conv => whnf)
      refine RetP.lay [] oko ?_
      conv => whnf
      conv => whnf
      repeat' (refine RetP.nrm ?_ <;> conv => whnf)
      all_goals rfl
end Go.CK
namespace Go.CK
open Go.AM Go.Proofs
set_option maxRecDepth 100000 in
theorem all_k {a b : List Tm} {out : List Bnd} {e : Int} (h : allR a b = some (out, e)) (hN : Tm.nodess a + Tm.nodess b ≤ 100000) : Fun Try.prog 17 [.sl .no (a.map Tm.av), .sl .no (b.map Tm.av)] (.tup [.sl .no (out.map Bnd.av), .int .i64 e]) := by
 have hla := nodess_len a; have hlb := nodess_len b; unfold allR at h; refine Fun.of (op_constraintref07_All (by simp) ?_) rfl rfl
 conv => whnf
 conv => whnf
 skip; refine LoopP.by (fb := true) (fun _ (j : Nat) => ⟨[(0, .sl .no (a.map Tm.av)), (1, .sl .no (b.map Tm.av)), (6, .int .i64 (j : Int))], [], 0⟩) (fun j => j ≤ a.length ∧ (a.drop j).all Tm.right = a.all Tm.right) (fun j => a.length - j) 0 ⟨Nat.zero_le _, rfl⟩ ?_ ?_
 ·exact endz
 ·rintro j ⟨q1, q2⟩
  by_cases hj : j < a.length
  ·obtain ⟨x, hx⟩ : ∃ x, a[j]? = some x := ⟨_, List.getElem?_eq_getElem hj⟩; have hxn := nodess_take a hx; have hs := right3_ok x (by omega)
   rw [List.drop_eq_getElem_cons hj, (List.getElem?_eq_some_iff.1 hx).2, List.all_cons] at q2
   cases hr : x.right with
   | true =>
    rw [hr] at hs; rw [hr, Bool.true_and] at q2
    conv => whnf
    repeat' ((first | (refine gF ?_; refine CallN.fn (hs) ?_) | (refine gC ?_; first | refine cY ?_ | refine .not ?_ | (refine gD ?_; refine cI ?_)) | (refine gW ?_; refine wI ?_) | (refine gL ?_; refine .map ?_) | (refine gI ?_; (refine gT ?_; refine iA ?_))) <;> conv => whnf)
    refine ⟨j + 1, ⟨⟨hj, q2⟩, by omega⟩, ?_⟩
    exact endz
   | false =>
    rw [hr] at hs; rw [hr, Bool.false_and] at q2; rw [← q2, Bool.false_and, if_neg Bool.false_ne_true] at h; cases h
    conv => whnf
    repeat' ((first | (refine gF ?_; refine CallN.fn (hs) ?_) | (refine gC ?_; first | refine cN ?_ | refine .not ?_ | (refine gD ?_; refine cI ?_)) | (refine gL ?_; refine .map ?_) | (refine gI ?_; (refine gT ?_; refine iA ?_)) | refine RetP.nrm ?_) <;> conv => whnf)
    all_goals rfl
  ·obtain rfl : j = a.length := by omega
   rw [List.drop_length, List.all_nil] at q2; rw [← q2, Bool.true_and] at h
   conv => whnf
   repeat' ((first | (refine gC ?_; (refine gD ?_; refine cJ ?_)) | (refine gL ?_; refine .map ?_)) <;> conv => whnf)
   refine LoopP.by (fb := true) (fun _ (j : Nat) => ⟨[(0, .sl .no (a.map Tm.av)), (1, .sl .no (b.map Tm.av)), (7, .int .i64 (j : Int))], [], 0⟩) (fun j => j ≤ b.length ∧ (b.drop j).all Tm.right = b.all Tm.right) (fun j => b.length - j) 0 ⟨Nat.zero_le _, rfl⟩ ?_ ?_
   ·exact endz
   ·rintro j ⟨q3, q4⟩
    by_cases hj : j < b.length
    ·obtain ⟨x, hx⟩ : ∃ x, b[j]? = some x := ⟨_, List.getElem?_eq_getElem hj⟩; have hxn := nodess_take b hx; have hs := right3_ok x (by omega)
     rw [List.drop_eq_getElem_cons hj, (List.getElem?_eq_some_iff.1 hx).2, List.all_cons] at q4
     cases hr : x.right with
     | true =>
      rw [hr] at hs; rw [hr, Bool.true_and] at q4
      conv => whnf
      repeat' ((first | (refine gF ?_; refine CallN.fn (hs) ?_) | (refine gC ?_; first | refine cY ?_ | refine .not ?_ | (refine gD ?_; refine cI ?_)) | (refine gW ?_; refine wI ?_) | (refine gL ?_; refine .map ?_) | (refine gI ?_; (refine gT ?_; refine iA ?_))) <;> conv => whnf)
      refine ⟨j + 1, ⟨⟨hj, q4⟩, by omega⟩, ?_⟩
      exact endz
     | false =>
      rw [hr] at hs; rw [hr, Bool.false_and] at q4; rw [← q4, if_neg Bool.false_ne_true] at h; cases h
      conv => whnf
      repeat' ((first | (refine gF ?_; refine CallN.fn (hs) ?_) | (refine gC ?_; first | refine cN ?_ | refine .not ?_ | (refine gD ?_; refine cI ?_)) | (refine gL ?_; refine .map ?_) | (refine gI ?_; (refine gT ?_; refine iA ?_)) | refine RetP.nrm ?_) <;> conv => whnf)
      all_goals rfl
    ·obtain rfl : j = b.length := by omega
     rw [List.drop_length, List.all_nil] at q4; rw [← q4, if_pos rfl] at h
     by_cases hl : a.length = b.length
     ·rw [if_pos hl] at h; have hl2 : (a.length : Int) = (b.length : Int) := by omega
      have hsv := solve_k (f := fR) (by unfold solveR; exact h) hl (fun x hx => right_form (List.all_eq_true.1 q2.symm x hx)) (fun x hx => right_form (List.all_eq_true.1 q4.symm x hx)) hN (by decide)
      conv => whnf
      repeat' ((first | (refine gF ?_; refine CallN.fn (hsv) ?_) | (refine gC ?_; first | refine .not ?_ | (refine gD ?_; first | refine cI ?_ | refine cJ ?_)) | (refine gL ?_; refine .map ?_) | refine RetP.nrm ?_) <;> conv => whnf)
      all_goals rfl
     ·rw [if_neg hl] at h; cases h; have hl2 : ¬ (a.length : Int) = (b.length : Int) := by omega
      conv => whnf
      repeat' ((first | (refine gC ?_; first | refine .not ?_ | (refine gD ?_; refine cJ ?_)) | (refine gL ?_; refine .map ?_) | refine RetP.nrm ?_) <;> conv => whnf)
      all_goals rfl
theorem both_law {a b : List Tm} (hN : Tm.nodess a + Tm.nodess b ≤ 100000) : ∃ out e, allF fN fF a b = some (out, e) ∧ allR a b = some (out, e) := by
 obtain ⟨out, e, h1, h2, _⟩ := allF_law hN; obtain ⟨out', e', h3, h4⟩ := allR_law hN; refine ⟨out, e, h1, ?_⟩
 have : out = out' ∧ e = e' := by
  split at h2
  ·rename_i hr; rw [if_pos hr] at h4; split at h2
   ·rename_i hl; rw [if_pos hl] at h4; exact h2.one h4
   ·rename_i hl; rw [if_neg hl] at h4; exact ⟨h2.1.trans h4.1.symm, h2.2.trans h4.2.symm⟩
  ·rename_i hr; rw [if_neg hr] at h4; exact ⟨h2.1.trans h4.1.symm, h2.2.trans h4.2.symm⟩
 rw [this.1, this.2]; exact h3
set_option maxHeartbeats 1000000 in
set_option maxRecDepth 100000 in
theorem UnifyLists_ok (a b : List Tm) : Fun Try.prog 4 [.sl .no (a.map Tm.av), .sl .no (b.map Tm.av)] (.bool true) := by
 have fa := Few_ok a; have fb := Few_ok b
 cases ha : fewB a with
 | false =>
  rw [ha] at fa; refine Fun.of (op_constraintlaw07_UnifyLists (by simp) ?_) rfl rfl
  conv => whnf
  conv => whnf
  repeat' ((first | (refine gF ?_; first | refine CallN.fn (fa) ?_ | refine CallN.fn (awake_ok) ?_) | (refine gC ?_; first | refine cY ?_ | refine cN ?_ | refine .not ?_) | refine RetP.nrm ?_) <;> conv => whnf)
 | true =>
 rw [ha] at fa
 cases hb : fewB b with
 | false =>
  rw [hb] at fb; refine Fun.of (op_constraintlaw07_UnifyLists (by simp) ?_) rfl rfl
  conv => whnf
  conv => whnf
  repeat' ((first | (refine gF ?_; first | refine CallN.fn (fa) ?_ | refine CallN.fn (fb) ?_ | refine CallN.fn (awake_ok) ?_) | (refine gC ?_; first | refine cY ?_ | refine cN ?_ | refine .not ?_) | refine RetP.nrm ?_) <;> conv => whnf)
 | true =>
 rw [hb] at fb; unfold fewB at ha hb; rw [Bool.and_eq_true, decide_eq_true_eq] at ha hb; have na := small_mem ha.2 ha.1; have nb := small_mem hb.2 hb.1; obtain ⟨m, e, u1, u2⟩ := both_law (a := a) (b := b) (by omega)
 have h1 := all_ok u1 (by omega)
 have h3 := all_k u2 (by omega)
 have hsm := same6_ok m m; rw [sameB_refl] at hsm; refine Fun.of (op_constraintlaw07_UnifyLists (by simp) ?_) rfl rfl
 conv => whnf
 conv => whnf
 repeat' ((first | (refine gF ?_; first | refine CallN.fn (fa) ?_ | refine CallN.fn (fb) ?_ | refine CallN.fn (h1) ?_ | refine CallN.fn (h3) ?_ | refine CallN.fn (hsm) ?_ | refine CallN.fn (awake_ok) ?_) | (refine gC ?_; first | refine cY ?_ | refine .not ?_ | (refine gD ?_; refine cI ?_)) | refine RetP.nrm ?_) <;> conv => whnf)
theorem unifyLists_law {a b : List Tm} : Fun Try.prog 4 [slA Tm.av a, slA Tm.av b] (.bool true) := UnifyLists_ok a b
end Go.CK
namespace Go.CK
open Go.RowKit Go.AM
def AllFV (M : Hp) : List AV -> List Value -> Prop
 | [], [] => True
 | x :: xs, v :: vs => FV M x v ∧ AllFV M xs vs
 | _, _ => False
theorem AllFV.len {M : Hp} : ∀ {xs : List AV} {vs : List Value}, AllFV M xs vs -> vs.length = xs.length
 | [], [], _ => rfl
 | _ :: xs, _ :: vs, h => by simp [AllFV.len h.2]
 | [], _ :: _, h => h.elim
 | _ :: _, [], h => h.elim
theorem AllFV.get {M : Hp} : ∀ {xs : List AV} {vs : List Value}, AllFV M xs vs -> ∀ j (h : j < xs.length) v, vs[j]? = some v -> FV M xs[j] v
 | [], [], _, j, h, _, _ => by cases h
 | _ :: xs, _ :: vs, h, 0, _, v, hv => by
  simp only [List.getElem?_cons_zero, Option.some.injEq] at hv
  subst hv; exact h.1
 | _ :: xs, _ :: vs, h, j + 1, hj, v, hv => AllFV.get h.2 j (by simpa using hj) v (by simpa using hv)
 | [], _ :: _, h, _, _, _, _ => h.elim
 | _ :: _, [], h, _, _, _, _ => h.elim
theorem Fun.calls {P : Program} {f : FuncId} {vals : List AV} {b : Bool} (h : Fun P f vals (.bool b)) {w : World} {args : List Value} (ha : AllFV (Hp.of w) vals args) :
  Calls P f args.toArray w fun e w' => e = .returned (.bool b) ∧ Ext w w' := by
 refine (((h []).mono (Q' := fun r _ => r = .bool b) fun r bs hq => hq.1).calls (Hp.le_refl _) ha.len ha.get).mono ?_; rintro e w' ⟨v, r, bs', M', σ, n, rfl, rfl, hv, hx, _⟩; exact ⟨by rw [hv.inv_bool], hx⟩
end Go.CK
namespace Go.CK
open Go.RowKit Go.Proofs Go.ChangeShapes Go.WideShapes Go.ChangeAt
open Go.Proofs.Ytahooabjmaolhaa.Rows (uptoBulk uptoBulkAll uptoSmall)
theorem bulk_one {H : Type} (d : DataW H) : 1 ≤ uptoBulk d := by
 cases d with
 | lit l => cases l <;> simp [uptoBulk]
 | nil => simp [uptoBulk]
 | ptr d => simp [uptoBulk]
 | slice elems spare => simp [uptoBulk]
 | agg parts => simp [uptoBulk]
 | iface t d => simp [uptoBulk]
 | map entries => simp [uptoBulk]
 | held h => simp [uptoBulk]
theorem bulk_part {H : Type} {d : DataW H} {l : List (DataW H)} (h : d ∈ l) : uptoBulk d ≤ uptoBulkAll l := by
 induction l with
 | nil => cases h
 | cons x r ih =>
  simp only [uptoBulkAll]
  cases List.mem_cons.1 h with
  | inl e => subst e; omega
  | inr e => have := ih e; omega
theorem bulk_len {H : Type} (l : List (DataW H)) : l.length ≤ uptoBulkAll l := by
 induction l with
 | nil => simp [uptoBulkAll]
 | cons x r ih => have := bulk_one x; simp only [uptoBulkAll, List.length_cons]; omega
theorem bulk_bound {H : Type} {l : List (DataW H)} (hk : uptoSmall H l = true) : uptoBulkAll l ≤ 1048576 := of_decide_eq_true hk
section
variable {H : Type} {enc : TypeId × Value -> H} {P : Program} {W : World} {spare : Nat -> Bool} {held : Bool}
theorem sl_of {α : Type} {T e : TypeId} {sz N : Nat} (hu : P.underlying T = some (.slice e)) (hsz : P.cellsOf e = sz) (hp : 0 < sz) (R : List Value -> α -> Prop) (hN : 0 ≤ N)
  (ih : ∀ (cs : List Value) (d : DataW H) (ps : List MemPlace) (fuel : Nat), DataW.trod enc P W 0 spare held fuel e cs = some (d, ps) -> uptoBulk d < N -> ∃ x, R cs x)
  {fuel : Nat} {cs : List Value} {d : DataW H} {ps : List MemPlace} (h : DataW.trod enc P W 0 spare held fuel T cs = some (d, ps)) (hb : uptoBulk d ≤ N) :
  ∃ (a : Option Addr) (l : List α) (cap : Nat), cs = [.slice a l.length cap] ∧ l.length ≤ cap ∧ Sl (Hp.of W) sz R a l ∧ l.length ≤ N := by
 subst hsz; rcases Deep.open_slice hu h with ⟨rfl, _⟩ | ⟨a, len, cap, m, n, D, Pl, rfl, _, hlc, hcm, hm, hx, hel⟩
 ·exact ⟨none, [], 0, rfl, by simp, Sl.nil, by simp⟩
 ·simp only [Prod.mk.injEq] at hx; obtain ⟨rfl, _⟩ := hx; have hlm : len ≤ m := by rw [hm]; split <;> omega
  simp only [uptoBulk] at hb; have hlen := bulk_len ((List.range len).map D); rw [List.length_map, List.length_range] at hlen
  have hD : ∀ i, i < len -> ∃ x cs', W.cells? 0 (a.add (i * P.cellsOf e)) (P.cellsOf e) = some cs' ∧ R cs' x := fun i hi => by
   obtain ⟨cs', h1, h2⟩ := hel i (by omega)
   have hbi : uptoBulk (D i) ≤ uptoBulkAll ((List.range len).map D) := bulk_part (List.mem_map.2 ⟨i, by simpa using hi, rfl⟩)
   obtain ⟨x, hx⟩ := ih cs' (D i) (Pl i) n h2 (by omega)
   exact ⟨x, cs', h1, hx⟩
  refine ⟨some a, List.ofFn (fun i : Fin len => (hD i.1 i.2).choose), cap, by simp, by simpa using hlc, ⟨by simp only [List.length_ofFn];unfold maxLen at hcm;unfold lim;omega, fun i hi => ?_⟩, by simp; omega⟩
  rw [List.length_ofFn] at hi
  have hspot : a.spot = none := by
   obtain ⟨cs', h1, _⟩ := hel 0 (by omega)
   obtain ⟨_, h2, h3⟩ := World.cells?_some h1; have h4 := h3 0 hp; rw [List.getElem?_eq_getElem (by omega)] at h4
   simp only [Nat.zero_mul] at h4; have h5 : (a.add 0).add 0 = a := by simp [Addr.add]
   rw [h5] at h4
   cases hs : a.spot with
   | none => rfl
   | some k =>
    simp only [World.cell?, hs] at h4; split at h4 <;> simp at h4
  obtain ⟨cs', h1, h2⟩ := (hD i hi).choose_spec; obtain ⟨_, h3, h4⟩ := World.cells?_some h1; have ha : a = ⟨a.block, a.off, none⟩ := by cases a; simp only at hspot; subst hspot; rfl
  refine ⟨a.block, a.off, cs', by rw [← ha], h3, fun j x hj => ?_, by simpa using h2⟩
  have hj2 : j < P.cellsOf e := by rw [← h3]; exact (List.getElem?_eq_some_iff.1 hj).1
  have h5 := h4 j hj2; rw [Deep.add_add] at h5
  have h6 : a.add (i * P.cellsOf e + j) = ⟨a.block, a.off + i * P.cellsOf e + j, none⟩ := by
   unfold Addr.add; split
   ·rename_i h0; rw [ha]; simp; omega
   ·simp
  rw [h6, hj] at h5; exact h5
end
theorem cellsInt : Try.prog.cellsOf 3 = 1 := by kernel_rfl
theorem cellsStr : Try.prog.cellsOf 9 = 1 := by kernel_rfl
theorem cellsTms : Try.prog.cellsOf 22 = 1 := by kernel_rfl
theorem cellsTm : Try.prog.cellsOf 24 = 4 := by kernel_rfl
section
variable {H : Type} {enc : TypeId × Value -> H} {W : World} {spare : Nat -> Bool} {held : Bool}
theorem int_of {fuel : Nat} {cs : List Value} {d : DataW H} {ps : List MemPlace} (h : DataW.trod enc Try.prog W 0 spare held fuel 3 cs = some (d, ps)) : ∃ n, cs = [.int .i64 n] ∧ IntOk n := by
 obtain ⟨n, h1, _, h3⟩ := DataW.trod_int Try.underlying3 h; exact ⟨n, h1, IntOk.of_wf h3⟩
theorem str_of {N fuel : Nat} {cs : List Value} {d : DataW H} {ps : List MemPlace} (h : DataW.trod enc Try.prog W 0 spare held fuel 9 cs = some (d, ps)) (hb : uptoBulk d ≤ N) : ∃ s : ByteArray, cs = [.string s] ∧ s.size ≤ lim := by
 obtain⟨s,h1,_,h3⟩:=DataW.trod_string Try.underlying9 h;exact ⟨s,h1,by unfold maxLen at h3;unfold lim;omega⟩
set_option maxRecDepth 100000 in
theorem tm_of : ∀ (N : Nat), 0 ≤ N -> ∀ (cs : List Value) (d : DataW H) (ps : List MemPlace) (fuel : Nat), DataW.trod enc Try.prog W 0 spare held fuel 24 cs = some (d, ps) -> uptoBulk d ≤ N -> ∃ t, RTm (Hp.of W) cs t := by
 intro N
 induction N using Nat.strongRecOn with
 | _ N ih =>
 intro hN cs d ps fuel h hb; obtain ⟨y0, y1, y2, y3, n, hx, hl, h0, h1, h2, h3⟩ := Joins.trod_struct4 Try.underlying24 h; simp only [Prod.mk.injEq] at hx; obtain ⟨rfl, _⟩ := hx; rw [cellsTm] at hl
 match cs, hl with
 | [c0, c1, c2, c3], _ =>
  simp only [cellsInt, cellsStr, cellsTms, List.drop_zero, List.drop_succ_cons, List.take_succ_cons, List.take_zero] at h0 h1 h2 h3; simp only [uptoBulk, uptoBulkAll] at hb; have := bulk_one y3.1; obtain ⟨k, e0, ik⟩ := int_of h0; obtain ⟨m, e1, im⟩ := int_of h1; obtain ⟨s, e2, is⟩ := str_of (N := N) h2 (by omega)
  obtain ⟨a, l, cap, e3, hlc, hsl, _⟩ := sl_of (N := N - 1) Try.underlying22 cellsTm (by omega) (RTm (Hp.of W)) (by omega) (fun cs d ps fuel h hb => ih (N - 1) (by omega) (by omega) cs d ps fuel h (by omega)) h3 (by omega)
  simp only [List.cons.injEq, and_true] at e0 e1 e2 e3; subst e0; subst e1; subst e2; subst e3; exact ⟨.mk k m s l, RTm.intro ik im is hlc hsl⟩
end
end Go.CK
namespace Go.CK
open Go.RowKit Go.Proofs Go.ChangeShapes Go.WideShapes Go.ChangeAt
open Go.Proofs.Ytahooabjmaolhaa.Rows (uptoBulk uptoBulkAll uptoSmall)
section
variable {H : Type} {enc : TypeId × Value -> H} {W : World} {spare : Nat -> Bool} {held : Bool}
set_option maxRecDepth 100000 in
theorem ltm_of (N : Nat) (hN : 0 ≤ N) (cs : List Value) (d : DataW H) (ps : List MemPlace) (fuel : Nat) (h : DataW.trod enc Try.prog W 0 spare held fuel 22 cs = some (d, ps)) (hb : uptoBulk d ≤ N) : ∃ x, RSl 4 RTm (Hp.of W) cs x := by
 obtain ⟨a, l, k, e, h1, h2, _⟩ := sl_of (N := N) Try.underlying22 cellsTm (by omega) (RTm (Hp.of W)) hN (fun cs d ps fuel h hb => tm_of N hN cs d ps fuel h (by omega)) h hb
 exact ⟨l, a, k, e, h1, h2⟩
end
end Go.CK
