/-
  Texts of this claim joined (wip/gen/bundle.py), those declarations only that are needed: PlZ FunC Read RdPla. By an AI agent.
-/
import Derived.Test.YtamhnlajkncccaaBay
import Derived.Test.YtamhnlajkncccaaBap
import Derived.Test.YtamhnlajkncccaaRows
import Derived.Test.YtamhnlajkncccaaBaa
import Derived.ProofKit
import Derived.OpenShut
import Derived.ShutString
import Derived.ChangeOld
import Derived.JoinedCond
import Derived.Deep.Slices
import Derived.Lib.SmallJoins
import Derived.SizedLaws
set_option linter.unusedSimpArgs false
set_option linter.unusedVariables false
namespace Go.CK
open Go.AM Go.Proofs
theorem guard_of {p : Pg} {keys : List Ky} (h : largeI p keys = false) : ∀ r ∈ p.rules, r.guard.length ≤ 60 ∧ ∀ g ∈ r.guard, g.args.length ≤ 60 ∧ (Tm.vss g.args).length ≤ 60 := fun r hr => by
  simp only [largeI, Bool.or_eq_false_iff, decide_eq_false_iff_not, List.any_eq_false, gr1, Bool.or_eq_true, decide_eq_true_eq, not_or] at h
  obtain ⟨_, h2, _⟩ := h
  obtain ⟨_, _, _, _, hgd, _⟩ := h2 r hr
  have hgd : greatP (r.guard.map gl2) 60 = false := by simpa using hgd
  refine ⟨?_, fun g hg => ?_⟩
  · have := greatP_len hgd
    rw [List.length_map] at this
    omega
  · have := greatP_at hgd (gl2 g) (List.mem_map.2 ⟨g, hg, rfl⟩)
    simp only [gl2] at this
    omega
theorem placeT_at {r : Rl} {d : List Int} {n : Nat} : ∀ {k : Nat}, n < k → (placeT r d k)[n]? = some (newI r d n)
  | 0, h => by omega
  | k + 1, h => by
    rw [placeT]
    rcases Nat.lt_or_eq_of_le (Nat.le_of_lt_succ h) with q | q
    · rw [List.getElem?_append_left (by rw [placeT_len]; exact q)]
      exact placeT_at q
    · subst q
      rw [List.getElem?_append_right (by rw [placeT_len]; exact Nat.le_refl _), placeT_len, Nat.sub_self]
      rfl
theorem firsts_app (l m : List Int) : firsts (l ++ m) = addVs (firsts l) m := addVs_app [] l m
/-- all variables of the guard are known in the end -/
theorem vars_known {r : Rl} {d : List Int} (hd : d.Perm (upI r.heads.length)) (h : (firsts (Tm.vss (atT r.keep ++ atT r.remove ++ glT r.guard))).length = (firsts (Tm.vss (atT r.keep ++ atT r.remove ++ glT []))).length) : ∀ g ∈ r.guard, coversB (kvs r.heads d) g = true := by
  have e : glT [] = [] := rfl
  rw [e, List.append_nil, Tm.vss_app _ (glT r.guard), firsts_app] at h
  have hall := addVs_all h
  intro g hg
  rw [coversB, List.all_eq_true]
  intro v hv
  have hv1 : v ∈ Tm.vss g.args := by
    rcases addVs_mem.1 hv with q | q
    · cases q
    · exact q
  obtain ⟨i, hi, hgi⟩ := List.mem_iff_getElem.1 hg
  have hv2 : v ∈ Tm.vss (glT r.guard) := flatT_has (f := Gl.args) (List.getElem?_eq_some_iff.2 ⟨hi, hgi⟩) hv1 hi
  have hv3 : v ∈ Tm.vss (atT r.keep ++ atT r.remove) := by
    rcases addVs_mem.1 (hall v hv2) with q | q
    · cases q
    · exact q
  have hv4 : ∃ a ∈ r.heads, v ∈ Tm.vss a.args := by
    rw [Tm.vss_app, List.mem_append] at hv3
    rcases hv3 with q | q
    · obtain ⟨a, ha, q⟩ := flatT_in q
      exact ⟨a, List.mem_append_left _ ha, q⟩
    · obtain ⟨a, ha, q⟩ := flatT_in q
      exact ⟨a, List.mem_append_right _ ha, q⟩
  obtain ⟨a, ha, hva⟩ := hv4
  obtain ⟨j, hj, haj⟩ := List.mem_iff_getElem.1 ha
  refine decide_eq_true (kvs_has (k := (j : Int)) (hd.mem_iff.2 (upI_has (by omega) (by omega))) (by omega) ?_ hva)
  rw [Int.toNat_natCast]
  exact List.getElem?_eq_some_iff.2 ⟨hj, haj⟩
/-- what is tested with the n-th head has its variables among those found -/
theorem tested_vars {r : Rl} {d : List Int} {n : Nat} {i : Nat} {g : Gl} (h : (i : Int) ∈ newI r d n) (hg : r.guard[i]? = some g) : ∀ v ∈ firsts (Tm.vss g.args), v ∈ firsts (Tm.vss (argsOf r.heads (d.take n))) := fun v hv => by
  obtain ⟨i', g', e, hg', hp⟩ := newI_mem.1 h
  obtain rfl : i = i' := by omega
  rw [hg] at hg'; cases hg'
  rw [newP_prev, Bool.and_eq_true, coversB, List.all_eq_true] at hp
  exact (argsOf_kvs r.heads (d.take n) v).2 (of_decide_eq_true (hp.1 v hv))
theorem tms_end {r : Rl} {d : List Int} {n : Nat} (hn : n = d.length) (h : ∀ g ∈ r.guard, coversB (kvs r.heads d) g = true) {i : Nat} (hi : i < r.guard.length) : tmsI r d (n + 1) 0 i = 1 := by
  obtain ⟨g, hg⟩ : ∃ g, r.guard[i]? = some g := ⟨_, List.getElem?_eq_getElem hi⟩
  have e : prevP r d (n + 1) g = true := by
    show coversB (kvs r.heads (d.take n)) g = true
    rw [hn, List.take_length]
    exact h g (List.mem_of_getElem? hg)
  simp [tmsI, hg, e]
set_option maxRecDepth 100000 in
set_option maxHeartbeats 4000000 in
theorem planTests_law {p : Pg} : Fun Try.prog 6 [p.av] (.bool true) := by
  have hlg := large_ok (p := p) (keys := [])
  cases hl : largeI p [] with
  | true =>
    rw [hl] at hlg
    refine Fun.of (op_constraintlaw29_PlanTests (by simp) ?_) rfl rfl
    conv => whnf
    conv => whnf
    repeat' ((first | (refine gF ?_; first | refine CallN.fn (hlg) ?_ | refine CallN.fn (example29_ok) ?_) | (refine gC ?_; refine cY ?_) | refine RetP.nrm ?_) <;> conv => whnf)
  | false =>
    rw [hl] at hlg
    obtain ⟨hp, h8, hoc, _⟩ := fit_of hl
    have hgd := guard_of hl
    have hal := refAll_ok hp.ok hp.few
    have hpl := planAll_ok hp hoc
    have hlen : (allI p).length = p.occs.length := by rw [allI, List.length_map]
    have hx : ∀ i x, (allI p)[i]? = some x → ∃ o, o ∈ p.occs ∧ x = ofI p (keysI p) o := fun i x h => by
      obtain ⟨o, ho, rfl⟩ := List.mem_map.1 (List.mem_of_getElem? h)
      exact ⟨o, ho, rfl⟩
    generalize p.occs = ocl at hal hlen hoc
    generalize allI p = pls at *
    refine Fun.of (op_constraintlaw29_PlanTests (by simp) ?_) rfl rfl
    conv => whnf
    conv => whnf
    repeat' ((first | (refine gF ?_; first | refine CallN.fn (hlg) ?_ | refine CallN.fn (hal) ?_ | refine CallN.fn (hpl) ?_) | (refine gC ?_; first | refine cN ?_ | refine .not ?_ | (refine gD ?_; refine cI ?_)) | (refine gL ?_; refine .map ?_)) <;> conv => whnf)
    refine LoopP.count (fb := true) (pls.length) (fun st_ i => st_.sets [(4, .int .i64 i)]) (fun _ => True) trivial ?_ (fun i hi _ => ?_) (fun _ => ?_)
    · refine EndN.at_ ?_ rfl
      conv => whnf
      refine And.intro ?_ ?_ <;> conv => whnf
      all_goals repeat' ((first | (refine gV ?_; first | refine vE ?_ | refine vI ?_) | (refine gX ?_; refine xB ?_) | exact True.intro) <;> conv => whnf)
    · obtain ⟨x, hxi⟩ : ∃ x, pls[i]? = some x := ⟨_, List.getElem?_eq_getElem hi⟩
      obtain ⟨o, hop, hxo⟩ := hx i x hxi
      obtain ⟨r, hr, h1, h2, h3, h4⟩ := occs_mem hop
      have hrm := List.mem_of_getElem? hr
      have hr2 := hp.ok2 r hrm
      obtain ⟨g1, g2⟩ := hgd r hrm
      have hrl : r.heads.length ≤ 8 := by rw [Rl.heads_len]; exact hr2.1
      have hol := orderT_len (r := r) (keys := keysI p) h2 h3
      have hpm := orderT_perm (r := r) (keys := keysI p) h2 h3
      have hxe : x = planI r o (orderT r (keysI p) o.head) := by rw [hxo, ofI, if_pos hop, hr]
      have e1 : x.occ = o := by rw [hxe]; rfl
      have e2 : x.order = orderT r (keysI p) o.head := by rw [hxe]; rfl
      have e3 : x.tests = placeI r (o.head :: orderT r (keysI p) o.head) := by rw [hxe]; rfl
      have hrt : rightI p x = true := by rw [hxo]; exact right_of hop
      rw [← e2] at e3 hol hpm
      clear hxe hxo hx e2
      subst e1
      have hrr := refRight_ok (p := p) (x := x) hp (by omega)
      rw [hrt] at hrr
      have hfo := fun n hn => found_ok (r := r) (x := x) (n := n) hr2 hn (by omega) h2 h3 (fun h hm => upI_mem (hpm.mem_iff.1 (List.mem_cons_of_mem _ hm)))
      have hpa : ∀ n, n < x.order.length + 2 → x.tests[n]? = some (newI r (x.occ.head :: x.order) n) := fun n hn => by
        rw [e3]; exact placeT_at (by simp; omega)
      have hpll : x.tests.length = x.order.length + 2 := by rw [e3, placeI, placeT_len]; simp
      have ht1 := terms_ok (x := ⟨.empty, r.keep, r.remove, r.guard, [], 0⟩) rfl (by have := hr2.1; show r.keep.length ≤ _; omega) (by have := hr2.1; show r.remove.length ≤ _; omega) (by show r.guard.length ≤ _; omega) (fun h hh => by have := (hr2.2 h (List.mem_append_left _ hh)).1; omega) (fun h hh => by have := (hr2.2 h (List.mem_append_right _ hh)).1; omega) (fun g hg => by have := (g2 g hg).1; omega)
      have ht2 := terms_ok (x := ⟨.empty, r.keep, r.remove, [], [], 0⟩) rfl (by have := hr2.1; show r.keep.length ≤ _; omega) (by have := hr2.1; show r.remove.length ≤ _; omega) (by simp) (fun h hh => by have := (hr2.2 h (List.mem_append_left _ hh)).1; omega) (fun h hh => by have := (hr2.2 h (List.mem_append_right _ hh)).1; omega) (fun g hg => by cases hg)
      have hvk := vars_known (r := r) hpm
      have hb1 : (Tm.vss (atT r.keep)).length ≤ 200 * r.keep.length := flatT_vss (f := At.args) (fun h hh => (hr2.2 h (List.mem_append_left _ hh)).2.1) _
      have hb2 : (Tm.vss (atT r.remove)).length ≤ 200 * r.remove.length := flatT_vss (f := At.args) (fun h hh => (hr2.2 h (List.mem_append_right _ hh)).2.1) _
      have hb3 : (Tm.vss (glT r.guard)).length ≤ 60 * r.guard.length := flatT_vss (f := Gl.args) (fun g hg => (g2 g hg).2) _
      have hv1 := varsOf_ok (l := atT r.keep ++ atT r.remove ++ glT r.guard) (by rw [Tm.vss_app, Tm.vss_app, List.length_append, List.length_append]; have := hr2.1; omega)
      have hv2 := varsOf_ok (l := atT r.keep ++ atT r.remove ++ glT []) (by rw [Tm.vss_app, Tm.vss_app, List.length_append, List.length_append]; have := hr2.1; show _ + 0 ≤ _; omega)
      have hte := fun n i g => tested_vars (r := r) (d := x.occ.head :: x.order) (n := n) (i := i) (g := g)
      have hend := fun i => tms_end (r := r) (d := x.occ.head :: x.order) (n := x.order.length + 1) rfl (i := i)
      simp only [Rl.av] at ht1 ht2
      generalize firsts (Tm.vss (atT r.keep ++ atT r.remove ++ glT r.guard)) = f1 at *
      generalize firsts (Tm.vss (atT r.keep ++ atT r.remove ++ glT [])) = f2 at *
      generalize atT r.keep ++ atT r.remove ++ glT r.guard = t1 at *
      generalize atT r.keep ++ atT r.remove ++ glT [] = t2 at *
      conv => whnf
      repeat' ((first | (refine gF ?_; refine CallN.fn (hrr) ?_) | (refine gG ?_; first | refine CallP.fn (ht1) ?_ | refine CallP.fn (ht2) ?_ | refine CallP.fn (hv1) ?_ | refine CallP.fn (hv2) ?_) | (refine gC ?_; first | refine cY ?_ | refine .not ?_ | (refine gD ?_; refine cI ?_) | refine CondN.dec (fun hc => ?_) (fun hc => ?_)) | (refine gW ?_; refine wI ?_) | (refine gL ?_; refine .map ?_) | (refine gI ?_; (refine gM ?_; first | refine iE ?_ | refine iF ?_)) | (refine gMk ?_; refine mB ?_)) <;> conv => whnf)
      · have hcov := hvk (by omega)
        have htz := tmsL_zero r (x.occ.head :: x.order)
        clear hvk
        generalize hd : x.occ.head :: x.order = d at *
        have hdl : d.length = x.order.length + 1 := by rw [← hd]; simp
        refine LoopP.count (fb := true) x.tests.length (fun st_ n => ⟨(st_.sets [(8, .int .i64 n)]).env, [.cells [.sl .no (p.decls.map Dc.av), .sl .no (p.rules.map Rl.av)], .cells [.int .i64 x.occ.rule, .int .i64 x.occ.head, .bool x.occ.kept, .sl .no (x.order.map intA), .sl .no (x.known.map (slA intA)), .sl .no (x.tests.map (slA intA))], .cells [.str r.name, .sl .no (r.keep.map At.av), .sl .no (r.remove.map At.av), .sl .no (r.guard.map Gl.av), .sl .no (r.body.map Gl.av), .int .i64 r.vars], rowF (AV.int .i64) 1 r.guard.length (tmsL r d n 0)], 0⟩) (fun _ => True) trivial ?_ (fun n hn _ => ?_) (fun _ => ?_)
        · refine EndN.at_ ?_ rfl
          conv => whnf
          refine And.intro ?_ ?_ <;> conv => whnf
          all_goals repeat' ((first | (refine gV ?_; first | refine vE ?_ | refine vI ?_) | (refine gX ?_; first | refine xB ?_ | (refine BxN.mk ?_ ?_; (focus (simp [AV.norm, AV.norm1, htz]; done)))) | exact True.intro) <;> conv => whnf)
        · have hfn := hfo n (by omega)
          have htn := hpa n (by omega)
          have hte := hte n
          have htx := tmsL_next r d n
          have hst := fun k q => tmsL_step (r := r) (d := d) (n := n) (k := k) (x := q)
          have hmm := fun q => newI_mem (r := r) (d := d) (n := n) (x := q)
          have htsl : (newI r d n).length ≤ 60 := by
            have := idxP_len (newP r d n) r.guard r.guard.length
            unfold newI; omega
          have hfl : (firsts (Tm.vss (argsOf r.heads (d.take n)))).length ≤ 100000 := by
            have q1 := (argsOf_len (hs := r.heads) (fun g hg => ⟨(hr2.2 g hg).1, (hr2.2 g hg).2.1⟩) (d.take n)).2
            have q2 := addVs_len (Tm.vss (argsOf r.heads (d.take n))) []
            have q3 := List.length_take_le' n d
            simp only [List.length_nil] at q2
            unfold firsts; omega
          generalize newI r d n = ts at *
          generalize firsts (Tm.vss (argsOf r.heads (d.take n))) = fv at *
          conv => whnf
          repeat' ((first | (refine gF ?_; refine CallN.fn (hfn) ?_) | (refine gC ?_; (refine gD ?_; refine cI ?_)) | (refine gL ?_; refine .map ?_)) <;> conv => whnf)
          refine LoopP.count (fb := true) ts.length (fun st_ k => ⟨(st_.sets [(10, .int .i64 k)]).env, [.cells [.sl .no (p.decls.map Dc.av), .sl .no (p.rules.map Rl.av)], .cells [.int .i64 x.occ.rule, .int .i64 x.occ.head, .bool x.occ.kept, .sl .no (x.order.map intA), .sl .no (x.known.map (slA intA)), .sl .no (x.tests.map (slA intA))], .cells [.str r.name, .sl .no (r.keep.map At.av), .sl .no (r.remove.map At.av), .sl .no (r.guard.map Gl.av), .sl .no (r.body.map Gl.av), .int .i64 r.vars], rowF (AV.int .i64) 1 r.guard.length (tmsL r d n k)], 0⟩) (fun _ => True) trivial ?_ (fun k hk _ => ?_) (fun _ => ?_)
          · refine EndN.at_ ?_ rfl
            conv => whnf
            refine And.intro ?_ ?_ <;> conv => whnf
            all_goals repeat' ((first | (refine gV ?_; first | refine vE ?_ | refine vI ?_) | (refine gX ?_; refine xB ?_) | exact True.intro) <;> conv => whnf)
          · obtain ⟨q, hq⟩ : ∃ q, ts[k]? = some q := ⟨_, List.getElem?_eq_getElem hk⟩
            obtain ⟨i1, rfl, hi1, hse⟩ := hst k q hq
            obtain ⟨g, hgi⟩ : ∃ g, r.guard[i1]? = some g := ⟨_, List.getElem?_eq_getElem hi1⟩
            have hgb := g2 g (List.mem_of_getElem? hgi)
            have hvin := hte i1 g (List.mem_of_getElem? hq) hgi
            have hta := tmsL_at (r := r) (d := d) (n := n) (k := k) hi1
            have htb : 0 ≤ tmsI r d n k i1 ∧ tmsI r d n k i1 ≤ 2 := by
              unfold tmsI
              split
              · omega
              · split <;> split <;> omega
            generalize tmsL r d n k = tl at *
            generalize tmsL r d n (k + 1) = tl' at *
            generalize tmsI r d n k i1 = tv at *
            have hgv := refGoalVars_ok (x := g) (by omega)
            have hgl : (firsts (Tm.vss g.args)).length ≤ 100000 := by
              have := addVs_len (Tm.vss g.args) []
              simp only [List.length_nil] at this
              unfold firsts; omega
            generalize firsts (Tm.vss g.args) = gv at *
            conv => whnf
            repeat' ((first | (refine gC ?_; (refine gD ?_; refine cI ?_)) | (refine gW ?_; refine wI ?_) | (refine gL ?_; refine .map ?_) | (refine gN ?_; refine nS ?_) | (refine gI ?_; (refine gM ?_; refine iE ?_)) | (refine gE ?_; refine eL ?_) | (refine gS ?_; refine eS ?_)) <;> conv => whnf)
            refine LoopP.count (fb := true) gv.length (fun st_ j => ⟨(st_.sets [(12, .int .i64 j)]).env, [.cells [.sl .no (p.decls.map Dc.av), .sl .no (p.rules.map Rl.av)], .cells [.int .i64 x.occ.rule, .int .i64 x.occ.head, .bool x.occ.kept, .sl .no (x.order.map intA), .sl .no (x.known.map (slA intA)), .sl .no (x.tests.map (slA intA))], .cells [.str r.name, .sl .no (r.keep.map At.av), .sl .no (r.remove.map At.av), .sl .no (r.guard.map Gl.av), .sl .no (r.body.map Gl.av), .int .i64 r.vars], rowF (AV.int .i64) 1 r.guard.length (tl')], 0⟩) (fun _ => True) trivial ?_ (fun j hj _ => ?_) (fun _ => ?_)
            · refine EndN.at_ ?_ rfl
              conv => whnf
              refine And.intro ?_ ?_ <;> conv => whnf
              all_goals repeat' ((first | (refine gV ?_; first | refine vE ?_ | refine vI ?_) | (refine gX ?_; first | refine xB ?_ | (refine BxN.mk ?_ ?_; (focus (simp [AV.norm, AV.norm1, hse]; done)))) | exact True.intro) <;> conv => whnf)
            · obtain ⟨y, hy⟩ : ∃ y, gv[j]? = some y := ⟨_, List.getElem?_eq_getElem hj⟩
              have hyf := hvin y (List.mem_of_getElem? hy)
              conv => whnf
              repeat' ((first | (refine gF ?_; refine CallN.fn (hgv) ?_) | (refine gC ?_; (refine gD ?_; refine cI ?_)) | (refine gL ?_; refine .map ?_) | (refine gI ?_; (refine gM ?_; refine iE ?_))) <;> conv => whnf)
              refine LoopP.count (fb := true) fv.length (fun st_ m => ⟨(st_.sets [(13, .bool (decide (y ∈ fv.take m))), (14, .int .i64 m)]).env, [.cells [.sl .no (p.decls.map Dc.av), .sl .no (p.rules.map Rl.av)], .cells [.int .i64 x.occ.rule, .int .i64 x.occ.head, .bool x.occ.kept, .sl .no (x.order.map intA), .sl .no (x.known.map (slA intA)), .sl .no (x.tests.map (slA intA))], .cells [.str r.name, .sl .no (r.keep.map At.av), .sl .no (r.remove.map At.av), .sl .no (r.guard.map Gl.av), .sl .no (r.body.map Gl.av), .int .i64 r.vars], rowF (AV.int .i64) 1 r.guard.length (tl')], 0⟩) (fun _ => True) trivial ?_ (fun m hm _ => ?_) (fun _ => ?_)
              · refine EndN.at_ ?_ rfl
                conv => whnf
                refine And.intro ?_ ?_ <;> conv => whnf
                all_goals repeat' ((first | (refine gV ?_; first | refine vE ?_ | refine vI ?_ | (refine WkN.norm ?_ ?_; (focus (simp [AV.norm, AV.norm1, ]; done)))) | (refine gX ?_; refine xB ?_) | exact True.intro) <;> conv => whnf)
              · obtain ⟨z, hz⟩ : ∃ z, fv[m]? = some z := ⟨_, List.getElem?_eq_getElem hm⟩
                have htk : fv.take (m + 1) = fv.take m ++ [z] := by
                  rw [List.take_succ_eq_append_getElem hm, (List.getElem?_eq_some_iff.1 hz).2]
                have e1 : y ∈ fv.take m → true = decide (y ∈ fv.take (m + 1)) := fun h => by rw [htk]; simp [h]
                have e2 : ¬ y ∈ fv.take m → decide (z = y) = decide (y ∈ fv.take (m + 1)) := fun h => by rw [htk]; simp [h, eq_comm]
                conv => whnf
                repeat' ((first | (refine gG ?_; refine CallP.fn (hgv) ?_) | (refine gC ?_; first | (refine gD ?_; first | refine cI ?_ | refine cJ ?_) | refine CondN.dec (fun hc => ?_) (fun hc => ?_)) | (refine gW ?_; refine wI ?_) | (refine gL ?_; refine .map ?_) | (refine gI ?_; (refine gM ?_; refine iE ?_))) <;> conv => whnf)
                · have e3 := e1 (by assumption)
                  refine ⟨trivial, ?_⟩
                  refine EndN.at_ ?_ rfl
                  conv => whnf
                  refine And.intro ?_ ?_ <;> conv => whnf
                  all_goals repeat' ((first | (refine gV ?_; first | refine vE ?_ | refine vI ?_ | refine vB ?_) | (refine gX ?_; refine xB ?_) | exact True.intro) <;> conv => whnf)
                · have e3 := e2 (by assumption)
                  refine ⟨trivial, ?_⟩
                  refine EndN.at_ ?_ rfl
                  conv => whnf
                  refine And.intro ?_ ?_ <;> conv => whnf
                  all_goals repeat' ((first | (refine gV ?_; first | refine vE ?_ | refine vI ?_ | refine vB ?_) | (refine gX ?_; refine xB ?_) | exact True.intro) <;> conv => whnf)
              · rw [List.take_length, decide_eq_true hyf]
                conv => whnf
                repeat' ((first | (refine gC ?_; first | refine cY ?_ | refine .not ?_ | (refine gD ?_; refine cJ ?_)) | (refine gW ?_; refine wI ?_) | (refine gL ?_; refine .map ?_)) <;> conv => whnf)
                refine ⟨trivial, ?_⟩
                refine EndN.at_ ?_ rfl
                conv => whnf
                refine And.intro ?_ ?_ <;> conv => whnf
                all_goals repeat' ((first | (refine gV ?_; first | refine vE ?_ | refine vI ?_) | (refine gX ?_; refine xB ?_) | exact True.intro) <;> conv => whnf)
            · conv => whnf
              repeat' ((first | (refine gF ?_; refine CallN.fn (hgv) ?_) | (refine gC ?_; (refine gD ?_; refine cJ ?_)) | (refine gW ?_; refine wI ?_) | (refine gL ?_; refine .map ?_) | (refine gI ?_; (refine gM ?_; refine iE ?_))) <;> conv => whnf)
              refine ⟨trivial, ?_⟩
              refine EndN.at_ ?_ rfl
              conv => whnf
              refine And.intro ?_ ?_ <;> conv => whnf
              all_goals repeat' ((first | (refine gV ?_; first | refine vE ?_ | refine vI ?_) | (refine gX ?_; refine xB ?_) | exact True.intro) <;> conv => whnf)
          · conv => whnf
            repeat' ((first | (refine gC ?_; (refine gD ?_; refine cJ ?_)) | (refine gW ?_; refine wI ?_) | (refine gL ?_; refine .map ?_) | (refine gI ?_; (refine gM ?_; refine iE ?_))) <;> conv => whnf)
            refine ⟨trivial, ?_⟩
            refine EndN.at_ ?_ rfl
            conv => whnf
            refine And.intro ?_ ?_ <;> conv => whnf
            all_goals repeat' ((first | (refine gV ?_; first | refine vE ?_ | refine vI ?_) | (refine gX ?_; first | refine xB ?_ | (refine BxN.mk ?_ ?_; (focus (simp [AV.norm, AV.norm1, htx]; done)))) | exact True.intro) <;> conv => whnf)
        · conv => whnf
          repeat' ((first | (refine gC ?_; (refine gD ?_; refine cJ ?_)) | (refine gL ?_; refine .map ?_)) <;> conv => whnf)
          refine LoopP.count (fb := true) r.guard.length (fun st_ k => st_.sets [(15, .int .i64 k)]) (fun _ => True) trivial ?_ (fun k hk _ => ?_) (fun _ => ?_)
          · refine EndN.at_ ?_ rfl
            conv => whnf
            refine And.intro ?_ ?_ <;> conv => whnf
            all_goals repeat' ((first | (refine gV ?_; first | refine vE ?_ | refine vI ?_) | (refine gX ?_; refine xB ?_) | exact True.intro) <;> conv => whnf)
          · have hta := tmsL_at (r := r) (d := d) (n := x.tests.length) (k := 0) hk
            have hv := hend k hcov hk
            rw [show x.order.length + 1 + 1 = x.tests.length by omega] at hv
            rw [hv] at hta
            conv => whnf
            repeat' ((first | (refine gC ?_; first | refine .not ?_ | (refine gD ?_; refine cI ?_)) | (refine gW ?_; refine wI ?_) | (refine gN ?_; refine nS ?_) | (refine gE ?_; refine eL ?_)) <;> conv => whnf)
            refine ⟨trivial, ?_⟩
            refine EndN.at_ ?_ rfl
            conv => whnf
            refine And.intro ?_ ?_ <;> conv => whnf
            all_goals repeat' ((first | (refine gV ?_; first | refine vE ?_ | refine vI ?_) | (refine gX ?_; refine xB ?_) | exact True.intro) <;> conv => whnf)
          · conv => whnf
            repeat' ((first | (refine gC ?_; (refine gD ?_; refine cJ ?_)) | (refine gW ?_; refine wI ?_)) <;> conv => whnf)
            refine ⟨trivial, ?_⟩
            refine EndN.atC 1 ?_ rfl rfl rfl rfl (by first | rfl | (repeat' (first | rfl | refine bLtRow (row_allI _ _ _) ?_ | refine bLtRow (row_allB _ _ _) ?_ | refine bLtMp ?_ | refine bLtDead ?_ | refine bLtCells rfl ?_)))
            conv => whnf
            refine And.intro ?_ ?_ <;> conv => whnf
            all_goals repeat' ((first | (refine gV ?_; first | refine vE ?_ | refine vI ?_) | (refine gX ?_; refine xB ?_) | exact True.intro) <;> conv => whnf)
      · refine ⟨trivial, ?_⟩
        refine EndN.atC 1 ?_ rfl rfl rfl rfl (by first | rfl | (repeat' (first | rfl | refine bLtRow (row_allI _ _ _) ?_ | refine bLtRow (row_allB _ _ _) ?_ | refine bLtMp ?_ | refine bLtDead ?_ | refine bLtCells rfl ?_)))
        conv => whnf
        refine And.intro ?_ ?_ <;> conv => whnf
        all_goals repeat' ((first | (refine gV ?_; first | refine vE ?_ | refine vI ?_) | (refine gX ?_; refine xB ?_) | exact True.intro) <;> conv => whnf)
    · conv => whnf
      repeat' ((first | (refine gF ?_; refine CallN.fn (example29_ok) ?_) | (refine gC ?_; (refine gD ?_; refine cJ ?_)) | (refine gL ?_; refine .map ?_) | refine RetP.nrm ?_) <;> conv => whnf)
end Go.CK

namespace Go.CK
open Go.RowKit Go.AM

def AllFV (M : Hp) : List AV → List Value → Prop
  | [], [] => True
  | x :: xs, v :: vs => FV M x v ∧ AllFV M xs vs
  | _, _ => False
theorem AllFV.len {M : Hp} : ∀ {xs : List AV} {vs : List Value}, AllFV M xs vs → vs.length = xs.length
  | [], [], _ => rfl
  | _ :: xs, _ :: vs, h => by simp [AllFV.len h.2]
  | [], _ :: _, h => h.elim
  | _ :: _, [], h => h.elim
theorem AllFV.get {M : Hp} : ∀ {xs : List AV} {vs : List Value}, AllFV M xs vs → ∀ j (h : j < xs.length) v, vs[j]? = some v → FV M xs[j] v
  | [], [], _, j, h, _, _ => by cases h
  | _ :: xs, _ :: vs, h, 0, _, v, hv => by
    simp only [List.getElem?_cons_zero, Option.some.injEq] at hv
    subst hv; exact h.1
  | _ :: xs, _ :: vs, h, j + 1, hj, v, hv => AllFV.get h.2 j (by simpa using hj) v (by simpa using hv)
  | [], _ :: _, h, _, _, _, _ => h.elim
  | _ :: _, [], h, _, _, _, _ => h.elim
theorem Fun.calls {P : Program} {f : FuncId} {vals : List AV} {b : Bool} (h : Fun P f vals (.bool b)) {w : World} {args : List Value} (ha : AllFV (Hp.of w) vals args) :
    Calls P f args.toArray w fun e w' => e = .returned (.bool b) ∧ Ext w w' := by
  refine (((h []).mono (Q' := fun r _ => r = .bool b) fun r bs hq => hq.1).calls (Hp.le_refl _) ha.len ha.get).mono ?_
  rintro e w' ⟨v, r, bs', M', σ, n, rfl, rfl, hv, hx, _⟩
  exact ⟨by rw [hv.inv_bool], hx⟩
end Go.CK

namespace Go.CK
open Go.RowKit Go.Proofs Go.ChangeShapes Go.WideShapes Go.ChangeAt
open Go.Proofs.Ytamhnlajkncccaa.Rows (uptoBulk uptoBulkAll uptoSmall)

/-- all that d holds weighs at most what a process reaches -/
def Fit {H : Type} (P : Program) (t : TypeId) (d : DataW H) : Prop := ∀ n ∈ d.weights P t, n ≤ reachBytes
def FitAll {H : Type} (P : Program) : List TypeId → List (DataW H) → Prop
  | t :: ts, d :: r => Fit P t d ∧ FitAll P ts r
  | _, _ => True
theorem FitAll.of {H : Type} {P : Program} : ∀ {ts : List TypeId} {ds : List (DataW H)}, (∀ n ∈ DataW.weightsEach P ts ds, n ≤ reachBytes) → FitAll P ts ds
  | [], _, _ => trivial
  | _ :: _, [], _ => trivial
  | t :: ts, d :: ds, h => by
    simp only [DataW.weightsEach, List.mem_append] at h
    exact ⟨fun n hn => h n (.inl hn), FitAll.of fun n hn => h n (.inr hn)⟩
theorem Fit.agg {H : Type} {P : Program} {t : TypeId} {fs : Array Field} {parts : List (DataW H)} (hu : P.underlying t = some (.struct fs)) (h : Fit P t (.agg parts)) : FitAll P (fs.toList.map (·.type)) parts := by
  refine FitAll.of fun n hn => h n ?_
  simp only [DataW.weights, hu]; exact hn
theorem weights_all {H : Type} {P : Program} {e : TypeId} {d : DataW H} : ∀ {l : List (DataW H)}, d ∈ l → ∀ n ∈ d.weights P e, n ∈ DataW.weightsAll P e l
  | x :: l, hd, n, hn => by
    simp only [DataW.weightsAll, List.mem_append]
    rcases List.mem_cons.1 hd with rfl | hd
    · exact .inl hn
    · exact .inr (weights_all hd n hn)
theorem Fit.slice {H : Type} {P : Program} {t e : TypeId} {elems spare : List (DataW H)} (hu : P.underlying t = some (.slice e)) (h : Fit P t (.slice elems spare)) : (elems.length + spare.length) * P.bytesOf e ≤ reachBytes ∧ ∀ d ∈ elems, Fit P e d := by
  simp only [Fit, DataW.weights, hu, List.mem_cons, List.mem_append] at h
  exact ⟨h _ (.inl rfl), fun d hd n hn => h n (.inr (.inl (weights_all hd n hn)))⟩
theorem Fit.of {H : Type} {P : Program} {ts : List TypeId} {ds : List (DataW H)} (h : (DataW.weightsEach P ts ds).all (· ≤ reachBytes) = true) {j : Nat} {t : TypeId} {d : DataW H} (ht : ts[j]? = some t) (hd : ds[j]? = some d) : Fit P t d := fun n hn => by
  simpa using List.all_eq_true.1 h n (DataW.weights_mem_each ht hd n hn)
theorem bulk_one {H : Type} (d : DataW H) : 1 ≤ uptoBulk d := by
  cases d with
  | lit l => cases l <;> simp [uptoBulk]
  | nil => simp [uptoBulk]
  | ptr d => simp [uptoBulk]
  | slice elems spare => simp [uptoBulk]
  | agg parts => simp [uptoBulk]
  | iface t d => simp [uptoBulk]
  | map entries => simp [uptoBulk]
  | held h => simp [uptoBulk]

theorem bulk_part {H : Type} {d : DataW H} {l : List (DataW H)} (h : d ∈ l) : uptoBulk d ≤ uptoBulkAll l := by
  induction l with
  | nil => cases h
  | cons x r ih =>
    simp only [uptoBulkAll]
    cases List.mem_cons.1 h with
    | inl e => subst e; omega
    | inr e => have := ih e; omega

theorem bulk_len {H : Type} (l : List (DataW H)) : l.length ≤ uptoBulkAll l := by
  induction l with
  | nil => simp [uptoBulkAll]
  | cons x r ih => have := bulk_one x; simp only [uptoBulkAll, List.length_cons]; omega

theorem bulk_bound {H : Type} {l : List (DataW H)} (hk : uptoSmall H l = true) : uptoBulkAll l ≤ 1048576 := of_decide_eq_true hk

section
variable {H : Type} {enc : TypeId × Value → H} {P : Program} {W : World} {spare : Nat → Bool} {held : Bool}

/-- a slice that came in reads as a list -/
theorem sl_of {α : Type} {T e : TypeId} {sz N : Nat} (hu : P.underlying T = some (.slice e)) (hsz : P.cellsOf e = sz) (hp : 0 < sz) (R : List Value → α → Prop) (hN : 0 ≤ N)
    (ih : ∀ (cs : List Value) (d : DataW H) (ps : List MemPlace) (fuel : Nat), DataW.trod enc P W 0 spare held fuel e cs = some (d, ps) → uptoBulk d < N → Fit P e d → ∃ x, R cs x) (hby : 0 < P.bytesOf e)
    {fuel : Nat} {cs : List Value} {d : DataW H} {ps : List MemPlace} (h : DataW.trod enc P W 0 spare held fuel T cs = some (d, ps)) (hb : uptoBulk d ≤ N) (hf : Fit P T d) :
    ∃ (a : Option Addr) (l : List α) (cap : Nat), cs = [.slice a l.length cap] ∧ l.length ≤ cap ∧ Sl (Hp.of W) sz R a l ∧ l.length ≤ N := by
  subst hsz
  rcases Deep.open_slice hu h with ⟨rfl, _⟩ | ⟨a, len, cap, m, n, D, Pl, rfl, _, hlc, hcm, hm, hx, hel⟩
  · exact ⟨none, [], 0, rfl, by simp, Sl.nil, by simp⟩
  · simp only [Prod.mk.injEq] at hx
    obtain ⟨rfl, _⟩ := hx
    obtain ⟨hf1, hf2⟩ := Fit.slice hu hf
    have hf3 : len ≤ reachBytes := by rw [List.length_map, List.length_range] at hf1; have := Nat.le_mul_of_pos_right (len + ((List.range (m - len)).map fun j => D (len + j)).length) hby; omega
    have hlm : len ≤ m := by rw [hm]; split <;> omega
    simp only [uptoBulk] at hb
    have hlen := bulk_len ((List.range len).map D)
    rw [List.length_map, List.length_range] at hlen
    have hD : ∀ i, i < len → ∃ x cs', W.cells? 0 (a.add (i * P.cellsOf e)) (P.cellsOf e) = some cs' ∧ R cs' x := fun i hi => by
      obtain ⟨cs', h1, h2⟩ := hel i (by omega)
      have hbi : uptoBulk (D i) ≤ uptoBulkAll ((List.range len).map D) := bulk_part (List.mem_map.2 ⟨i, by simpa using hi, rfl⟩)
      obtain ⟨x, hx⟩ := ih cs' (D i) (Pl i) n h2 (by omega) (hf2 _ (List.mem_map.2 ⟨i, by simpa using hi, rfl⟩))
      exact ⟨x, cs', h1, hx⟩
    refine ⟨some a, List.ofFn (fun i : Fin len => (hD i.1 i.2).choose), cap, by simp, by simpa using hlc, ⟨by simp only [List.length_ofFn];unfold reachBytes at hf3;unfold lim;omega, fun i hi => ?_⟩, by simp; omega⟩
    rw [List.length_ofFn] at hi
    have hspot : a.spot = none := by
      obtain ⟨cs', h1, _⟩ := hel 0 (by omega)
      obtain ⟨_, h2, h3⟩ := World.cells?_some h1
      have h4 := h3 0 hp
      rw [List.getElem?_eq_getElem (by omega)] at h4
      simp only [Nat.zero_mul] at h4
      have h5 : (a.add 0).add 0 = a := by simp [Addr.add]
      rw [h5] at h4
      cases hs : a.spot with
      | none => rfl
      | some k =>
        simp only [World.cell?, hs] at h4
        split at h4 <;> simp at h4
    obtain ⟨cs', h1, h2⟩ := (hD i hi).choose_spec
    obtain ⟨_, h3, h4⟩ := World.cells?_some h1
    have ha : a = ⟨a.block, a.off, none⟩ := by cases a; simp only at hspot; subst hspot; rfl
    refine ⟨a.block, a.off, cs', by rw [← ha], h3, fun j x hj => ?_, by simpa using h2⟩
    have hj2 : j < P.cellsOf e := by rw [← h3]; exact (List.getElem?_eq_some_iff.1 hj).1
    have h5 := h4 j hj2
    rw [Deep.add_add] at h5
    have h6 : a.add (i * P.cellsOf e + j) = ⟨a.block, a.off + i * P.cellsOf e + j, none⟩ := by
      unfold Addr.add
      split
      · rename_i h0
        rw [ha]; simp; omega
      · simp
    rw [h6, hj] at h5
    exact h5
end

theorem cellsInt : Try.prog.cellsOf 3 = 1 := by kernel_rfl
theorem cellsStr : Try.prog.cellsOf 9 = 1 := by kernel_rfl
theorem cellsTms : Try.prog.cellsOf 52 = 1 := by kernel_rfl
theorem cellsTm : Try.prog.cellsOf 88 = 4 := by kernel_rfl

section
variable {H : Type} {enc : TypeId × Value → H} {W : World} {spare : Nat → Bool} {held : Bool}

theorem int_of {fuel : Nat} {cs : List Value} {d : DataW H} {ps : List MemPlace} (h : DataW.trod enc Try.prog W 0 spare held fuel 3 cs = some (d, ps)) : ∃ n, cs = [.int .i64 n] ∧ IntOk n := by
  obtain ⟨n, h1, _, h3⟩ := DataW.trod_int Try.underlying3 h
  exact ⟨n, h1, IntOk.of_wf h3⟩

theorem str_of {N fuel : Nat} {cs : List Value} {d : DataW H} {ps : List MemPlace} (h : DataW.trod enc Try.prog W 0 spare held fuel 9 cs = some (d, ps)) (hb : uptoBulk d ≤ N) (hf : Fit Try.prog 9 d) : ∃ s : ByteArray, cs = [.string s] ∧ s.size ≤ lim := by
  obtain ⟨s, h1, h2, _⟩ := DataW.trod_string Try.underlying9 h
  simp only [Prod.mk.injEq] at h2
  obtain ⟨rfl, _⟩ := h2
  have h3 := hf s.data.toList.length (by simp [DataW.weights])
  have e : s.data.toList.length = s.size := by rw [Array.length_toList]; rfl
  exact ⟨s, h1, by unfold reachBytes at h3; unfold lim; omega⟩

set_option maxRecDepth 100000 in
/-- a term that came in -/
theorem tm_of : ∀ (N : Nat), 0 ≤ N → ∀ (cs : List Value) (d : DataW H) (ps : List MemPlace) (fuel : Nat), DataW.trod enc Try.prog W 0 spare held fuel 88 cs = some (d, ps) → uptoBulk d ≤ N → Fit Try.prog 88 d → ∃ t, RTm (Hp.of W) cs t := by
  intro N
  induction N using Nat.strongRecOn with
  | _ N ih =>
  intro hN cs d ps fuel h hb hf
  obtain ⟨y0, y1, y2, y3, n, hx, hl, h0, h1, h2, h3⟩ := Joins.trod_struct4 Try.underlying88 h
  simp only [Prod.mk.injEq] at hx
  obtain ⟨rfl, _⟩ := hx
  obtain ⟨_, _, F2, F3, _⟩ := Fit.agg Try.underlying88 hf
  rw [cellsTm] at hl
  match cs, hl with
  | [c0, c1, c2, c3], _ =>
    simp only [cellsInt, cellsStr, cellsTms, List.drop_zero, List.drop_succ_cons, List.take_succ_cons, List.take_zero] at h0 h1 h2 h3
    simp only [uptoBulk, uptoBulkAll] at hb
    have := bulk_one y3.1
    obtain ⟨k, e0, ik⟩ := int_of h0
    obtain ⟨m, e1, im⟩ := int_of h1
    obtain ⟨s, e2, is⟩ := str_of (N := N) h2 (by omega) F2
    obtain ⟨a, l, cap, e3, hlc, hsl, _⟩ := sl_of (N := N - 1) Try.underlying52 cellsTm (by omega) (RTm (Hp.of W)) (by omega) (fun cs d ps fuel h hb hf => ih (N - 1) (by omega) (by omega) cs d ps fuel h (by omega) hf) (of_decide_eq_true (by kernel_rfl)) h3 (by omega) F3
    simp only [List.cons.injEq, and_true] at e0 e1 e2 e3
    subst e0; subst e1; subst e2; subst e3
    exact ⟨.mk k m s l, RTm.intro ik im is hlc hsl⟩
end
end Go.CK

namespace Go.CK
open Go.RowKit Go.Proofs Go.ChangeShapes Go.WideShapes Go.ChangeAt
open Go.Proofs.Ytamhnlajkncccaa.Rows (uptoBulk uptoBulkAll uptoSmall)
section
variable {H : Type} {enc : TypeId × Value → H} {W : World} {spare : Nat → Bool} {held : Bool}
theorem bool_of {fuel : Nat} {cs : List Value} {d : DataW H} {ps : List MemPlace} (h : DataW.trod enc Try.prog W 0 spare held fuel 4 cs = some (d, ps)) : ∃ b, cs = [.bool b] := by
  obtain ⟨n, h1, _⟩ := DataW.trod_bool Try.underlying4 h
  exact ⟨n, h1⟩

theorem trod_struct6 {P : Program} {base : Nat} {t : TypeId} {f0 f1 f2 f3 f4 f5 : Field} {fuel : Nat} {cs : List Value} {x : DataW H × List MemPlace} (ht : P.underlying t = some (.struct #[f0, f1, f2, f3, f4, f5])) (h : DataW.trod enc P W base spare held fuel t cs = some x) :
    ∃ y0 y1 y2 y3 y4 y5 n, x = (.agg [y0.1, y1.1, y2.1, y3.1, y4.1, y5.1], y0.2 ++ (y1.2 ++ (y2.2 ++ (y3.2 ++ (y4.2 ++ y5.2))))) ∧ cs.length = P.cellsOf t ∧ DataW.trod enc P W base spare held n f0.type ((cs.drop f0.offset).take (P.cellsOf f0.type)) = some y0 ∧ DataW.trod enc P W base spare held n f1.type ((cs.drop f1.offset).take (P.cellsOf f1.type)) = some y1 ∧ DataW.trod enc P W base spare held n f2.type ((cs.drop f2.offset).take (P.cellsOf f2.type)) = some y2 ∧ DataW.trod enc P W base spare held n f3.type ((cs.drop f3.offset).take (P.cellsOf f3.type)) = some y3 ∧ DataW.trod enc P W base spare held n f4.type ((cs.drop f4.offset).take (P.cellsOf f4.type)) = some y4 ∧ DataW.trod enc P W base spare held n f5.type ((cs.drop f5.offset).take (P.cellsOf f5.type)) = some y5 := by
  obtain ⟨xs, n, _, rfl, hl, hlen, hf⟩ := DataW.trod_struct ht h
  match xs, hlen with
  | [y0, y1, y2, y3, y4, y5], _ => exact ⟨y0, y1, y2, y3, y4, y5, n, by simp, hl, by simpa using hf 0 f0 rfl, by simpa using hf 1 f1 rfl, by simpa using hf 2 f2 rfl, by simpa using hf 3 f3 rfl, by simpa using hf 4 f4 rfl, by simpa using hf 5 f5 rfl⟩
set_option maxRecDepth 100000 in
theorem lint_of (N : Nat) (hN : 0 ≤ N) (cs : List Value) (d : DataW H) (ps : List MemPlace) (fuel : Nat) (h : DataW.trod enc Try.prog W 0 spare held fuel 27 cs = some (d, ps)) (hb : uptoBulk d ≤ N) (hf : Fit Try.prog 27 d) : ∃ x, RSl 1 RInt (Hp.of W) cs x := by
  obtain ⟨a, l, k, e, h1, h2, _⟩ := sl_of (N := N) Try.underlying27 cellsInt (by omega) (RInt (Hp.of W)) hN (fun cs d ps fuel h _ _ => let ⟨n, e, i⟩ := int_of h; ⟨n, e, i⟩) (of_decide_eq_true (by kernel_rfl)) h hb hf
  exact ⟨l, a, k, e, h1, h2⟩
theorem cells_Lint : Try.prog.cellsOf 27 = 1 := by kernel_rfl
theorem cells_Ky : Try.prog.cellsOf 60 = 3 := by kernel_rfl
set_option maxRecDepth 100000 in
theorem ky_of (N : Nat) (hN : 0 ≤ N) (cs : List Value) (d : DataW H) (ps : List MemPlace) (fuel : Nat) (h : DataW.trod enc Try.prog W 0 spare held fuel 60 cs = some (d, ps)) (hb : uptoBulk d ≤ N) (hf : Fit Try.prog 60 d) : ∃ x, RKy (Hp.of W) cs x := by
  obtain ⟨y0, y1, y2, n, hx, hl, h0, h1, h2⟩ := Deep.trod_struct3 Try.underlying60 h
  simp only [Prod.mk.injEq] at hx
  obtain ⟨rfl, _⟩ := hx
  obtain ⟨F0, F1, F2, _⟩ := Fit.agg Try.underlying60 hf
  rw [cells_Ky] at hl
  match cs, hl with
  | [c0, c1, c2], _ =>
    simp only [cellsStr, cellsInt, cells_Lint, List.drop_zero, List.drop_succ_cons, List.take_succ_cons, List.take_zero] at h0 h1 h2
    simp only [uptoBulk, uptoBulkAll] at hb
    obtain ⟨v0, e0, i0⟩ := str_of (N := N) h0 (by omega) F0
    obtain ⟨v1, e1, i1⟩ := int_of h1
    obtain ⟨v2, a2, k2, e2, l2, s2⟩ := lint_of N hN _ _ _ _ h2 (by omega) F2
    simp only [List.cons.injEq, and_true] at e0 e1 e2
    subst e0
    subst e1
    subst e2
    exact ⟨⟨v0, v1, v2⟩, a2, k2, rfl, i0, i1, l2, s2⟩
set_option maxRecDepth 100000 in
theorem lky_of (N : Nat) (hN : 0 ≤ N) (cs : List Value) (d : DataW H) (ps : List MemPlace) (fuel : Nat) (h : DataW.trod enc Try.prog W 0 spare held fuel 26 cs = some (d, ps)) (hb : uptoBulk d ≤ N) (hf : Fit Try.prog 26 d) : ∃ x, RSl 3 RKy (Hp.of W) cs x := by
  obtain ⟨a, l, k, e, h1, h2, _⟩ := sl_of (N := N) Try.underlying26 cells_Ky (by omega) (RKy (Hp.of W)) hN (fun cs d ps fuel h hb hf => ky_of N hN cs d ps fuel h (by omega) hf) (of_decide_eq_true (by kernel_rfl)) h hb hf
  exact ⟨l, a, k, e, h1, h2⟩
theorem cells_Ak : Try.prog.cellsOf 29 = 3 := by kernel_rfl
set_option maxRecDepth 100000 in
theorem ak_of (N : Nat) (hN : 0 ≤ N) (cs : List Value) (d : DataW H) (ps : List MemPlace) (fuel : Nat) (h : DataW.trod enc Try.prog W 0 spare held fuel 29 cs = some (d, ps)) (hb : uptoBulk d ≤ N) (hf : Fit Try.prog 29 d) : ∃ x, RAk (Hp.of W) cs x := by
  obtain ⟨y0, y1, y2, n, hx, hl, h0, h1, h2⟩ := Deep.trod_struct3 Try.underlying29 h
  simp only [Prod.mk.injEq] at hx
  obtain ⟨rfl, _⟩ := hx
  obtain ⟨F0, F1, F2, _⟩ := Fit.agg Try.underlying29 hf
  rw [cells_Ak] at hl
  match cs, hl with
  | [c0, c1, c2], _ =>
    simp only [cellsInt, cells_Lint, List.drop_zero, List.drop_succ_cons, List.take_succ_cons, List.take_zero] at h0 h1 h2
    simp only [uptoBulk, uptoBulkAll] at hb
    obtain ⟨v0, e0, i0⟩ := int_of h0
    obtain ⟨v1, e1, i1⟩ := int_of h1
    obtain ⟨v2, a2, k2, e2, l2, s2⟩ := lint_of N hN _ _ _ _ h2 (by omega) F2
    simp only [List.cons.injEq, and_true] at e0 e1 e2
    subst e0
    subst e1
    subst e2
    exact ⟨⟨v0, v1, v2⟩, a2, k2, rfl, i0, i1, l2, s2⟩
theorem cells_Dc : Try.prog.cellsOf 173 = 2 := by kernel_rfl
set_option maxRecDepth 100000 in
theorem dc_of (N : Nat) (_hN : 0 ≤ N) (cs : List Value) (d : DataW H) (ps : List MemPlace) (fuel : Nat) (h : DataW.trod enc Try.prog W 0 spare held fuel 173 cs = some (d, ps)) (hb : uptoBulk d ≤ N) (hf : Fit Try.prog 173 d) : ∃ x, RDc (Hp.of W) cs x := by
  obtain ⟨y0, y1, n, hx, hl, h0, h1⟩ := trod_struct2 Try.underlying173 h
  simp only [Prod.mk.injEq] at hx
  obtain ⟨rfl, _⟩ := hx
  obtain ⟨F0, F1, _⟩ := Fit.agg Try.underlying173 hf
  rw [cells_Dc] at hl
  match cs, hl with
  | [c0, c1], _ =>
    simp only [cellsStr, cellsInt, List.drop_zero, List.drop_succ_cons, List.take_succ_cons, List.take_zero] at h0 h1
    simp only [uptoBulk, uptoBulkAll] at hb
    obtain ⟨v0, e0, i0⟩ := str_of (N := N) h0 (by omega) F0
    obtain ⟨v1, e1, i1⟩ := int_of h1
    simp only [List.cons.injEq, and_true] at e0 e1
    subst e0
    subst e1
    exact ⟨⟨v0, v1⟩, rfl, i0, i1⟩
set_option maxRecDepth 100000 in
theorem ldc_of (N : Nat) (hN : 0 ≤ N) (cs : List Value) (d : DataW H) (ps : List MemPlace) (fuel : Nat) (h : DataW.trod enc Try.prog W 0 spare held fuel 22 cs = some (d, ps)) (hb : uptoBulk d ≤ N) (hf : Fit Try.prog 22 d) : ∃ x, RSl 2 RDc (Hp.of W) cs x := by
  obtain ⟨a, l, k, e, h1, h2, _⟩ := sl_of (N := N) Try.underlying22 cells_Dc (by omega) (RDc (Hp.of W)) hN (fun cs d ps fuel h hb hf => dc_of N hN cs d ps fuel h (by omega) hf) (of_decide_eq_true (by kernel_rfl)) h hb hf
  exact ⟨l, a, k, e, h1, h2⟩
set_option maxRecDepth 100000 in
theorem ltm_of (N : Nat) (hN : 0 ≤ N) (cs : List Value) (d : DataW H) (ps : List MemPlace) (fuel : Nat) (h : DataW.trod enc Try.prog W 0 spare held fuel 52 cs = some (d, ps)) (hb : uptoBulk d ≤ N) (hf : Fit Try.prog 52 d) : ∃ x, RSl 4 RTm (Hp.of W) cs x := by
  obtain ⟨a, l, k, e, h1, h2, _⟩ := sl_of (N := N) Try.underlying52 cellsTm (by omega) (RTm (Hp.of W)) hN (fun cs d ps fuel h hb hf => tm_of N hN cs d ps fuel h (by omega) hf) (of_decide_eq_true (by kernel_rfl)) h hb hf
  exact ⟨l, a, k, e, h1, h2⟩
theorem cells_At : Try.prog.cellsOf 62 = 2 := by kernel_rfl
set_option maxRecDepth 100000 in
theorem at_of (N : Nat) (hN : 0 ≤ N) (cs : List Value) (d : DataW H) (ps : List MemPlace) (fuel : Nat) (h : DataW.trod enc Try.prog W 0 spare held fuel 62 cs = some (d, ps)) (hb : uptoBulk d ≤ N) (hf : Fit Try.prog 62 d) : ∃ x, RAt (Hp.of W) cs x := by
  obtain ⟨y0, y1, n, hx, hl, h0, h1⟩ := trod_struct2 Try.underlying62 h
  simp only [Prod.mk.injEq] at hx
  obtain ⟨rfl, _⟩ := hx
  obtain ⟨F0, F1, _⟩ := Fit.agg Try.underlying62 hf
  rw [cells_At] at hl
  match cs, hl with
  | [c0, c1], _ =>
    simp only [cellsStr, cellsTms, List.drop_zero, List.drop_succ_cons, List.take_succ_cons, List.take_zero] at h0 h1
    simp only [uptoBulk, uptoBulkAll] at hb
    obtain ⟨v0, e0, i0⟩ := str_of (N := N) h0 (by omega) F0
    obtain ⟨v1, a1, k1, e1, l1, s1⟩ := ltm_of N hN _ _ _ _ h1 (by omega) F1
    simp only [List.cons.injEq, and_true] at e0 e1
    subst e0
    subst e1
    exact ⟨⟨v0, v1⟩, a1, k1, rfl, i0, l1, s1⟩
set_option maxRecDepth 100000 in
theorem lat_of (N : Nat) (hN : 0 ≤ N) (cs : List Value) (d : DataW H) (ps : List MemPlace) (fuel : Nat) (h : DataW.trod enc Try.prog W 0 spare held fuel 47 cs = some (d, ps)) (hb : uptoBulk d ≤ N) (hf : Fit Try.prog 47 d) : ∃ x, RSl 2 RAt (Hp.of W) cs x := by
  obtain ⟨a, l, k, e, h1, h2, _⟩ := sl_of (N := N) Try.underlying47 cells_At (by omega) (RAt (Hp.of W)) hN (fun cs d ps fuel h hb hf => at_of N hN cs d ps fuel h (by omega) hf) (of_decide_eq_true (by kernel_rfl)) h hb hf
  exact ⟨l, a, k, e, h1, h2⟩
theorem cells_Gl : Try.prog.cellsOf 57 = 3 := by kernel_rfl
set_option maxRecDepth 100000 in
theorem gl_of (N : Nat) (hN : 0 ≤ N) (cs : List Value) (d : DataW H) (ps : List MemPlace) (fuel : Nat) (h : DataW.trod enc Try.prog W 0 spare held fuel 57 cs = some (d, ps)) (hb : uptoBulk d ≤ N) (hf : Fit Try.prog 57 d) : ∃ x, RGl (Hp.of W) cs x := by
  obtain ⟨y0, y1, y2, n, hx, hl, h0, h1, h2⟩ := Deep.trod_struct3 Try.underlying57 h
  simp only [Prod.mk.injEq] at hx
  obtain ⟨rfl, _⟩ := hx
  obtain ⟨F0, F1, F2, _⟩ := Fit.agg Try.underlying57 hf
  rw [cells_Gl] at hl
  match cs, hl with
  | [c0, c1, c2], _ =>
    simp only [cellsInt, cellsStr, cellsTms, List.drop_zero, List.drop_succ_cons, List.take_succ_cons, List.take_zero] at h0 h1 h2
    simp only [uptoBulk, uptoBulkAll] at hb
    obtain ⟨v0, e0, i0⟩ := int_of h0
    obtain ⟨v1, e1, i1⟩ := str_of (N := N) h1 (by omega) F1
    obtain ⟨v2, a2, k2, e2, l2, s2⟩ := ltm_of N hN _ _ _ _ h2 (by omega) F2
    simp only [List.cons.injEq, and_true] at e0 e1 e2
    subst e0
    subst e1
    subst e2
    exact ⟨⟨v0, v1, v2⟩, a2, k2, rfl, i0, i1, l2, s2⟩
set_option maxRecDepth 100000 in
theorem lgl_of (N : Nat) (hN : 0 ≤ N) (cs : List Value) (d : DataW H) (ps : List MemPlace) (fuel : Nat) (h : DataW.trod enc Try.prog W 0 spare held fuel 48 cs = some (d, ps)) (hb : uptoBulk d ≤ N) (hf : Fit Try.prog 48 d) : ∃ x, RSl 3 RGl (Hp.of W) cs x := by
  obtain ⟨a, l, k, e, h1, h2, _⟩ := sl_of (N := N) Try.underlying48 cells_Gl (by omega) (RGl (Hp.of W)) hN (fun cs d ps fuel h hb hf => gl_of N hN cs d ps fuel h (by omega) hf) (of_decide_eq_true (by kernel_rfl)) h hb hf
  exact ⟨l, a, k, e, h1, h2⟩
theorem cells_LAt : Try.prog.cellsOf 47 = 1 := by kernel_rfl
theorem cells_LGl : Try.prog.cellsOf 48 = 1 := by kernel_rfl
theorem cells_Rl : Try.prog.cellsOf 50 = 6 := by kernel_rfl
set_option maxRecDepth 100000 in
theorem rl_of (N : Nat) (hN : 0 ≤ N) (cs : List Value) (d : DataW H) (ps : List MemPlace) (fuel : Nat) (h : DataW.trod enc Try.prog W 0 spare held fuel 50 cs = some (d, ps)) (hb : uptoBulk d ≤ N) (hf : Fit Try.prog 50 d) : ∃ x, RRl (Hp.of W) cs x := by
  obtain ⟨y0, y1, y2, y3, y4, y5, n, hx, hl, h0, h1, h2, h3, h4, h5⟩ := trod_struct6 Try.underlying50 h
  simp only [Prod.mk.injEq] at hx
  obtain ⟨rfl, _⟩ := hx
  obtain ⟨F0, F1, F2, F3, F4, F5, _⟩ := Fit.agg Try.underlying50 hf
  rw [cells_Rl] at hl
  match cs, hl with
  | [c0, c1, c2, c3, c4, c5], _ =>
    simp only [cellsStr, cells_LAt, cells_LGl, cellsInt, List.drop_zero, List.drop_succ_cons, List.take_succ_cons, List.take_zero] at h0 h1 h2 h3 h4 h5
    simp only [uptoBulk, uptoBulkAll] at hb
    obtain ⟨v0, e0, i0⟩ := str_of (N := N) h0 (by omega) F0
    obtain ⟨v1, a1, k1, e1, l1, s1⟩ := lat_of N hN _ _ _ _ h1 (by omega) F1
    obtain ⟨v2, a2, k2, e2, l2, s2⟩ := lat_of N hN _ _ _ _ h2 (by omega) F2
    obtain ⟨v3, a3, k3, e3, l3, s3⟩ := lgl_of N hN _ _ _ _ h3 (by omega) F3
    obtain ⟨v4, a4, k4, e4, l4, s4⟩ := lgl_of N hN _ _ _ _ h4 (by omega) F4
    obtain ⟨v5, e5, i5⟩ := int_of h5
    simp only [List.cons.injEq, and_true] at e0 e1 e2 e3 e4 e5
    subst e0
    subst e1
    subst e2
    subst e3
    subst e4
    subst e5
    exact ⟨⟨v0, v1, v2, v3, v4, v5⟩, a1, k1, a2, k2, a3, k3, a4, k4, rfl, i0, l1, s1, l2, s2, l3, s3, l4, s4, i5⟩
set_option maxRecDepth 100000 in
theorem lrl_of (N : Nat) (hN : 0 ≤ N) (cs : List Value) (d : DataW H) (ps : List MemPlace) (fuel : Nat) (h : DataW.trod enc Try.prog W 0 spare held fuel 23 cs = some (d, ps)) (hb : uptoBulk d ≤ N) (hf : Fit Try.prog 23 d) : ∃ x, RSl 6 RRl (Hp.of W) cs x := by
  obtain ⟨a, l, k, e, h1, h2, _⟩ := sl_of (N := N) Try.underlying23 cells_Rl (by omega) (RRl (Hp.of W)) hN (fun cs d ps fuel h hb hf => rl_of N hN cs d ps fuel h (by omega) hf) (of_decide_eq_true (by kernel_rfl)) h hb hf
  exact ⟨l, a, k, e, h1, h2⟩
theorem cells_LDc : Try.prog.cellsOf 22 = 1 := by kernel_rfl
theorem cells_LRl : Try.prog.cellsOf 23 = 1 := by kernel_rfl
theorem cells_Pg : Try.prog.cellsOf 25 = 2 := by kernel_rfl
set_option maxRecDepth 100000 in
theorem pg_of (N : Nat) (hN : 0 ≤ N) (cs : List Value) (d : DataW H) (ps : List MemPlace) (fuel : Nat) (h : DataW.trod enc Try.prog W 0 spare held fuel 25 cs = some (d, ps)) (hb : uptoBulk d ≤ N) (hf : Fit Try.prog 25 d) : ∃ x, RPg (Hp.of W) cs x := by
  obtain ⟨y0, y1, n, hx, hl, h0, h1⟩ := trod_struct2 Try.underlying25 h
  simp only [Prod.mk.injEq] at hx
  obtain ⟨rfl, _⟩ := hx
  obtain ⟨F0, F1, _⟩ := Fit.agg Try.underlying25 hf
  rw [cells_Pg] at hl
  match cs, hl with
  | [c0, c1], _ =>
    simp only [cells_LDc, cells_LRl, List.drop_zero, List.drop_succ_cons, List.take_succ_cons, List.take_zero] at h0 h1
    simp only [uptoBulk, uptoBulkAll] at hb
    obtain ⟨v0, a0, k0, e0, l0, s0⟩ := ldc_of N hN _ _ _ _ h0 (by omega) F0
    obtain ⟨v1, a1, k1, e1, l1, s1⟩ := lrl_of N hN _ _ _ _ h1 (by omega) F1
    simp only [List.cons.injEq, and_true] at e0 e1
    subst e0
    subst e1
    exact ⟨⟨v0, v1⟩, a0, k0, a1, k1, rfl, l0, s0, l1, s1⟩
theorem cells_bool : Try.prog.cellsOf 4 = 1 := by kernel_rfl
theorem cells_Oc : Try.prog.cellsOf 36 = 3 := by kernel_rfl
set_option maxRecDepth 100000 in
theorem oc_of (N : Nat) (_hN : 0 ≤ N) (cs : List Value) (d : DataW H) (ps : List MemPlace) (fuel : Nat) (h : DataW.trod enc Try.prog W 0 spare held fuel 36 cs = some (d, ps)) (hb : uptoBulk d ≤ N) (hf : Fit Try.prog 36 d) : ∃ x, ROc (Hp.of W) cs x := by
  obtain ⟨y0, y1, y2, n, hx, hl, h0, h1, h2⟩ := Deep.trod_struct3 Try.underlying36 h
  simp only [Prod.mk.injEq] at hx
  obtain ⟨rfl, _⟩ := hx
  obtain ⟨F0, F1, F2, _⟩ := Fit.agg Try.underlying36 hf
  rw [cells_Oc] at hl
  match cs, hl with
  | [c0, c1, c2], _ =>
    simp only [cellsInt, cells_bool, List.drop_zero, List.drop_succ_cons, List.take_succ_cons, List.take_zero] at h0 h1 h2
    simp only [uptoBulk, uptoBulkAll] at hb
    obtain ⟨v0, e0, i0⟩ := int_of h0
    obtain ⟨v1, e1, i1⟩ := int_of h1
    obtain ⟨v2, e2⟩ := bool_of h2
    simp only [List.cons.injEq, and_true] at e0 e1 e2
    subst e0
    subst e1
    subst e2
    exact ⟨⟨v0, v1, v2⟩, rfl, i0, i1⟩
set_option maxRecDepth 100000 in
theorem llint_of (N : Nat) (hN : 0 ≤ N) (cs : List Value) (d : DataW H) (ps : List MemPlace) (fuel : Nat) (h : DataW.trod enc Try.prog W 0 spare held fuel 37 cs = some (d, ps)) (hb : uptoBulk d ≤ N) (hf : Fit Try.prog 37 d) : ∃ x, RSl 1 RInts (Hp.of W) cs x := by
  obtain ⟨a, l, k, e, h1, h2, _⟩ := sl_of (N := N) Try.underlying37 cells_Lint (by omega) (RInts (Hp.of W)) hN (fun cs d ps fuel h hb hf => lint_of N hN cs d ps fuel h (by omega) hf) (of_decide_eq_true (by kernel_rfl)) h hb hf
  exact ⟨l, a, k, e, h1, h2⟩
theorem cells_LLint : Try.prog.cellsOf 37 = 1 := by kernel_rfl
theorem cells_Pl : Try.prog.cellsOf 39 = 6 := by kernel_rfl
set_option maxRecDepth 100000 in
theorem pl_of (N : Nat) (hN : 0 ≤ N) (cs : List Value) (d : DataW H) (ps : List MemPlace) (fuel : Nat) (h : DataW.trod enc Try.prog W 0 spare held fuel 39 cs = some (d, ps)) (hb : uptoBulk d ≤ N) (hf : Fit Try.prog 39 d) : ∃ x, RPl (Hp.of W) cs x := by
  obtain ⟨y0, y1, y2, y3, n, hx, hl, h0, h1, h2, h3⟩ := Joins.trod_struct4 Try.underlying39 h
  simp only [Prod.mk.injEq] at hx
  obtain ⟨rfl, _⟩ := hx
  obtain ⟨F0, F1, F2, F3, _⟩ := Fit.agg Try.underlying39 hf
  rw [cells_Pl] at hl
  match cs, hl with
  | [c0, c1, c2, c3, c4, c5], _ =>
    simp only [cells_Oc, cells_Lint, cells_LLint, List.drop_zero, List.drop_succ_cons, List.take_succ_cons, List.take_zero] at h0 h1 h2 h3
    simp only [uptoBulk, uptoBulkAll] at hb
    obtain ⟨v0, e0⟩ := oc_of N hN _ _ _ _ h0 (by omega) F0
    obtain ⟨v1, a1, k1, e1, l1, s1⟩ := lint_of N hN _ _ _ _ h1 (by omega) F1
    obtain ⟨v2, a2, k2, e2, l2, s2⟩ := llint_of N hN _ _ _ _ h2 (by omega) F2
    obtain ⟨v3, a3, k3, e3, l3, s3⟩ := llint_of N hN _ _ _ _ h3 (by omega) F3
    simp only [List.cons.injEq, and_true] at e1 e2 e3
    subst e1
    subst e2
    subst e3
    exact ⟨⟨v0, v1, v2, v3⟩, _, a1, k1, a2, k2, a3, k3, rfl, e0, l1, s1, l2, s2, l3, s3⟩
end
end Go.CK

