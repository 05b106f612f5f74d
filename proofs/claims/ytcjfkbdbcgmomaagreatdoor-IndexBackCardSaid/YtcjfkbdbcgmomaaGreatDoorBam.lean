/-
  Texts of this claim joined (wip/gen/bundle.py), those declarations only that are needed: AmZn AmL. By an AI agent.
-/
import Derived.Test.YtcjfkbdbcgmomaaGreatDoorBal
set_option linter.unusedSimpArgs false
set_option linter.unusedVariables false
namespace Go.AM
open Go.CK Go.RowKit
def indepMS (ops : Array Oper) (rs : List ROp) (pi cs ms : List Nat) : Bool := ssaB rs pi && edgesOk ops.toList 0 && (nodupB pi && (allBelow pi ops.size && rowsM rs cs ms [] pi))
def MaskOk (ops : Array Oper) (ms : List Nat) (Inv : Array Bool -> Prop) : Prop := ∀ listed : Array Bool, Closed ops (fun i => listed.getD i false = true) -> Inv listed -> ∀ i o, i < ops.size -> ops[i]? = some o -> (∀ e ∈ o.after, Region.binds .any e = true -> listed.getD e.on false = true) -> ∀ k, (ms.getD i 0).testBit k = true -> listed.getD k false = true
theorem masks_ok {ops : Array Oper} (Inv : Array Bool -> Prop) : MaskOk ops (masksFrom [] ops.toList) Inv := fun listed hD _ i o h1 ho hpre k hb => by
 have hml : i < (masksFrom [] ops.toList).length := by rw [masks_length]; simpa using h1
 exact masks_spec hD (os := ops.toList) (acc := []) (fun j o' hj => by simpa using hj) (fun i m o' hm => by simp at hm) (fun i hlt => by simp at hlt) i ((masksFrom [] ops.toList).getD i 0) o (by simp [List.getElem?_eq_getElem hml]) ho hpre k hb
def maskXY (ms : List Nat) (x y : Nat) : List Nat := ms.set y (ms.getD y 0 ||| (1 <<< x))
theorem maskXY_ok {ops : Array Oper} {ms : List Nat} {x y : Nat} (h : MaskOk ops ms fun _ => True) : MaskOk ops (maskXY ms x y) fun l => l.getD x false = true := fun listed hD hI i o h1 ho hpre k hb => by
 by_cases hk : k = x
 ·subst hk; exact hI
 ·refine h listed hD trivial i o h1 ho hpre k ?_; simp only [maskXY, List.getD_eq_getElem?_getD] at hb ⊢
  by_cases hi : i = y
  ·subst hi
   by_cases hlt : i < ms.length
   ·simp only [List.getElem?_set_self hlt, Option.getD_some, Nat.testBit_or, Bool.or_eq_true] at hb; rcases hb with hb | hb
    ·exact hb
    ·exfalso; rw [Nat.one_shiftLeft, Nat.testBit_two_pow] at hb; exact hk (by simpa using hb : x = k).symm
   ·rw [List.set_eq_of_length_le (by omega)] at hb; exact hb
  ·rwa [List.getElem?_set_ne (Ne.symm hi)] at hb
section
variable {P : Program} {nt : Nat} {fl : Bool} {ops : Array Oper} {rs : List ROp} {cs pi : List Nat} {E : Entry} {rd : Option Nat} {n : Nat}
theorem stepBo {K : St -> Prop} {V ms : List Nat} {listed : Array Bool} {s : St} {i : Nat} {r : ROp} (hss1 : pi.Pairwise (Ssa rs)) (hss2 : ∀ k ∈ pi, Ssa rs k k) (hV : ∀ k ∈ pi, cs.getD k 0 = 0 -> ∀ x, rs[k]? = some x -> x.rx.looks = true -> ∀ t ∈ slotsOf x.rx.opds, t ∈ V)
  (hnd : pi.Nodup) (hmem : i ∈ pi) (hrows : rowsM rs cs ms [] pi = true) (hl : i < listed.size) (h2 : listed.getD i true = false) (hr : rs[i]? = some r)
  (hm : ∀ k, (ms.getD i 0).testBit k = true -> listed.getD k false = true) (hex : seqM P rs cs V (pi.filter fun k => !listed.getD k true) s K) :
  ∃ dr K1, r.run P dr s K1 ∧ ∀ s1, K1 s1 -> seqM P rs cs V (pi.filter fun k => !(listed.setIfInBounds i true).getD k true) s1 K := by
 obtain ⟨A, B, hAB⟩ := List.append_of_mem hmem; have hndAB := hnd; rw [hAB] at hndAB; obtain ⟨e1, e3⟩ := split_filter (fun k => !listed.getD k true) i hndAB (by simp [h2])
 rw [← hAB] at e1 e3; obtain ⟨pre, hpred⟩ : ∃ pre, pre = A.filter fun k => !listed.getD k true := ⟨_, rfl⟩; obtain ⟨post, hpostd⟩ : ∃ post, post = B.filter fun k => !listed.getD k true := ⟨_, rfl⟩; rw [← hpred, ← hpostd] at e1 e3
 have hgd : ∀ k, listed.getD k true = false -> listed.getD k false = false := fun k hk => by
  simp only [Array.getD_eq_getD_getElem?] at hk ⊢
  cases hq : listed[k]? with
  | none => rw [hq] at hk; cases hk
  | some b => rw [hq] at hk; simpa using hk
 have hex' : seqM P rs cs V (pre ++ i :: post) s K := by rw [← e1]; exact hex
 have hrow : ∀ k ∈ A, pairM rs cs (ms.getD i 0) i k = true := fun k hk => rowsM_spec (A := A) (B := B) (by rw [← hAB]; exact hrows) k (.inl hk)
 have hpreI : ∀ k ∈ pre, cs.getD k 0 = 0 ∧ match cs.getD i 0 with
   | 0 => ∀ x y, rs[k]? = some x -> rs[i]? = some y -> indep x y = true
   | 1 => False
   | _ + 2 => ∀ x y, rs[k]? = some x -> rs[i]? = some y -> commE x y = true := fun k hk => by
  rw [hpred, List.mem_filter] at hk; obtain ⟨hkA, hkl⟩ := hk; have hp := hrow k hkA; simp only [pairM, Bool.or_eq_true, Bool.and_eq_true] at hp; rcases hp with hb | ⟨hb1, hb2⟩
  ·exfalso; have := hm k hb; have h4 := hgd k (by simpa using hkl)
   rw [h4] at this; cases this
  ·refine ⟨Nat.eq_of_beq_eq_true hb1, ?_⟩; revert hb2
   cases hx : rs[k]? with
   | none => intro hb2; cases hb2
   | some x =>
    rw [hr]
    cases cs.getD i 0 with
    | zero => exact fun hb2 x' y' hx' hy' => by cases hx'; cases hy'; exact hb2
    | succ c =>
     cases c with
     | zero => exact fun hb2 => by cases hb2
     | succ c => exact fun hb2 x' y' hx' hy' => by cases hx'; cases hy'; exact hb2
 obtain ⟨dr, K1, hrun, hrest⟩ : ∃ dr K1, r.run P dr s K1 ∧ ∀ s1, K1 s1 -> seqM P rs cs V (pre ++ post) s1 K := by
  have hdet : ∀ k ∈ pre, cs.getD k 0 = 0 := fun k hk => (hpreI k hk).1; have hsnd := fun k hk => (hpreI k hk).2
  cases hci : cs.getD i 0 with
  | zero =>
   rw [hci] at hsnd
   obtain ⟨sm, h3, h4⟩ := seqM_det (pre := pre ++ [i]) (post := post) (fun k hk => by
    rcases List.mem_append.1 hk with h5 | h5
    ·exact hdet k h5
    ·simp at h5; rw [h5]; exact hci) (by simpa using hex')
   obtain ⟨s1, ⟨r', hr', h5⟩, h6⟩ := front h3 hsnd; rw [hr] at hr'; cases hr'; refine ⟨true, _, h5, fun s2 e => ?_⟩; subst e
   exact seqM_join hdet (by simpa using h6) h4
  | succ c =>
   cases c with
   | zero =>
    rw [hci] at hsnd
    cases hpe : pre with
    | cons k0 pre' => exact (hsnd k0 (by rw [hpe]; simp)).elim
    | nil =>
     rw [hpe] at hex'; obtain ⟨r', hr', h3⟩ := hex'; rw [hr] at hr'; cases hr'; rw [hci] at h3
     exact ⟨_, _, h3, fun s1 h4 => h4⟩
   | succ c =>
    rw [hci] at hsnd; obtain ⟨sm, h3, h4⟩ := seqM_det (pre := pre) (post := i :: post) hdet hex'; obtain ⟨r', hr', h5⟩ := h4; rw [hr] at hr'; cases hr'; rw [hci] at h5
    have hsub : pre.Sublist pi := by
     rw [hAB, hpred]; exact List.filter_sublist.trans (List.sublist_append_left _ _)
    have h3' := execV_of (V := V) h3 (hss1.sublist hsub) (fun k hk => hss2 k (hsub.subset hk)) (fun k hk => hV k (hsub.subset hk) (hdet k hk)); have h6 := effFront (i := i) h3' (fun k hk x hx => hsnd k hk x r hx hr) (ROp.mono (fun s' hs' => ⟨PreN.h hs', PreN.k hs'⟩) h5); exact ⟨false, _, h6, fun s1 ⟨_, s2, h7, h8⟩ => seqM_join hdet h7 h8⟩
 refine ⟨dr, K1, hrun, fun s1 hs1 => ?_⟩
 have hset : (pi.filter fun k => !(listed.setIfInBounds i true).getD k true) = pre ++ post := by
  rw [← e3]; refine List.filter_congr fun k hk => ?_
  by_cases hki : k = i
  ·subst hki; simp [hl]
  ·have hne : (k == i) = false := by simpa using hki
   simp [Array.getElem?_setIfInBounds_ne (Ne.symm hki), hne]
 rw [hset]; exact hrest s1 hs1
theorem any_multG {K : St -> Prop} {ms V : List Nat} (hV : ∀ k ∈ pi, cs.getD k 0 = 0 -> ∀ x, rs[k]? = some x -> x.rx.looks = true -> ∀ t ∈ slotsOf x.rx.opds, t ∈ V) (Inv : Array Bool -> Prop) (hinv : ∀ l i, Inv l -> Inv (l.setIfInBounds i true)) (hms : MaskOk ops ms Inv) (hc : ∀ (i : Nat) (o : Oper), ops[i]? = some o -> ∃ r, rs[i]? = some r ∧ OpC P nt ops o r) (hi : indepMS ops rs pi cs ms = true) {Q : Exit -> Act -> World -> Prop} (hnt : E.nt = nt) :
  ∀ (fuel : Nat) (listed : Array Bool) (s : St) (G : Gh) (a : Act) (w : World), listed.size = ops.size -> (restOf ops listed).length ≤ fuel -> Closed ops (fun i => listed.getD i false = true) -> Inv listed -> seqM P rs cs V (pi.filter fun k => !listed.getD k true) s K -> RS E G s a w ->
   (∀ s' G' a' w', K s' -> RS E G' s' a' w' -> Q .normal a' w') -> wpAnyIn (F0 rd) n P .any ops Q fuel listed a w := by
 simp only [indepMS, Bool.and_eq_true] at hi; obtain ⟨⟨hssa, hedges⟩, hnd, hbel, hrows⟩ := hi; obtain ⟨hss1, hss2⟩ := ssaB_spec hssa; have hnd := nodupB_spec hnd; have hbel := allBelow_spec hbel
 have hready : ∀ (listed : Array Bool) i, listed.size = ops.size -> i ∈ Region.ready .any ops listed -> i < ops.size ∧ listed.getD i true = false ∧ ∃ o, ops[i]? = some o ∧ ∀ e ∈ o.after, Region.binds .any e = true -> listed.getD e.on false = true := fun listed i hl h => by
  simp only [Region.ready, List.mem_filter, List.mem_range, Bool.and_eq_true, Bool.not_eq_true'] at h; obtain ⟨h1, h2, h3⟩ := h; refine ⟨h1, h2, ops[i], Array.getElem?_eq_getElem h1, fun e he hb => ?_⟩; rw [Array.getElem?_eq_getElem h1] at h3; simp only [Option.map_some, Option.getD_some, Array.all_eq_true_iff_forall_mem, Bool.or_eq_true, Bool.not_eq_true'] at h3; rcases h3 e he with h4 | h4
  ·rw [hb] at h4; cases h4
  ·exact h4
 -- what is listed in π is what there is
 have hpi : ∀ (listed : Array Bool), listed.size = ops.size -> restOf ops listed = [] -> (pi.filter fun k => !listed.getD k true) = [] := fun listed hl h => by
  refine List.filter_eq_nil_iff.2 fun k hk => ?_; intro hk2; simp only [Bool.not_eq_true'] at hk2
  have hlt : k < ops.size := by
   rcases Nat.lt_or_ge k ops.size with h1 | h1
   ·exact h1
   ·rw [Array.getD_eq_getD_getElem?, Array.getElem?_eq_none (by omega)] at hk2; cases hk2
  have : k ∈ restOf ops listed := by simp only [restOf, List.mem_filter, List.mem_range]; exact ⟨hlt, by simp [hk2]⟩
  rw [h] at this; cases this
 intro fuel
 induction fuel with
 | zero =>
  intro listed s G a w hl hlen hD hI hex hs hQ; have hnil : restOf ops listed = [] := List.length_eq_zero_iff.1 (by omega)
  rw [hpi listed hl hnil] at hex; refine ⟨?_, hQ s G a w hex hs⟩; rcases hq : Region.ready .any ops listed with _ | ⟨i, _⟩
  ·rfl
  ·obtain ⟨h1, h2, _⟩ := hready listed i hl (by rw [hq]; simp)
   have : i ∈ restOf ops listed := by simp only [restOf, List.mem_filter, List.mem_range]; exact ⟨h1, by simp [h2]⟩
   rw [hnil] at this; cases this
 | succ fuel ih =>
  intro listed s G a w hl hlen hD hI hex hs hQ; refine ⟨fun hr => ?_, fun i hi' => ?_⟩
  ·have hnil : restOf ops listed = [] := by
    rcases hq : restOf ops listed with _ | ⟨i, l⟩
    ·rfl
    ·exfalso; have hsort : (restOf ops listed).Pairwise (· < ·) := List.pairwise_lt_range.filter _; rw [hq] at hsort; have hfirst := (List.pairwise_cons.1 hsort).1; have hmem : i ∈ restOf ops listed := by rw [hq]; simp
     simp only [restOf, List.mem_filter, List.mem_range, Bool.not_eq_true'] at hmem
     have hin : i ∈ Region.ready .any ops listed := by
      simp only [Region.ready, List.mem_filter, List.mem_range, Bool.and_eq_true, Bool.not_eq_true']; refine ⟨hmem.1, hmem.2, ?_⟩; rw [Array.getElem?_eq_getElem hmem.1]; simp only [Option.map_some, Option.getD_some, Array.all_eq_true_iff_forall_mem, Bool.or_eq_true, Bool.not_eq_true']; intro e he
      cases hb : Region.binds .any e with
      | false => exact .inl rfl
      | true =>
       have hlt := edgesOk_spec hedges i ops[i] (by simp [hmem.1]) e he hb
       rw [Nat.zero_add] at hlt; refine .inr ?_
       cases hlk : listed.getD e.on false with
       | true => rfl
       | false =>
        exfalso
        have hlk2 : listed.getD e.on true = false := by
         have hsz : e.on < listed.size := by rw [hl]; omega
         simpa [hsz] using hlk
        have hin2 : e.on ∈ restOf ops listed := by
         simp only [restOf, List.mem_filter, List.mem_range, Bool.not_eq_true']; exact ⟨by omega, hlk2⟩
        rw [hq] at hin2; rcases List.mem_cons.1 hin2 with h5 | h5
        ·omega
        ·have := hfirst _ h5; omega
     rw [hr] at hin; cases hin
   rw [hpi listed hl hnil] at hex; exact hQ s G a w hex hs
  ·obtain ⟨h1, h2, o, ho, hpre⟩ := hready listed i hl hi'; obtain ⟨r, hr, hoc⟩ := hc i o ho; obtain ⟨dr, K1, hrun, hrest⟩ := stepBo hss1 hss2 hV hnd (hbel i h1) hrows (by rw [hl]; exact h1) h2 hr (fun k hk => hms listed hD hI i o h1 ho hpre k hk) hex
   refine op_sound hoc ho hrun hs hnt fun s' G' a' w' hs1 hs' _ => ?_; have hmem : i ∈ List.range ops.size := by simpa using h1
   obtain ⟨pre0, post0, f1, f2, f3⟩ := filter_split (fun k => !listed.getD k true) i (List.range ops.size) hmem (by simp [h2]) List.pairwise_lt_range
   have hset0 : restOf ops (listed.setIfInBounds i true) = pre0 ++ post0 := by
    rw [← f3]; unfold restOf; refine List.filter_congr fun k hk => ?_
    by_cases hki : k = i
    ·subst hki; have : k < listed.size := by rw [hl]; exact h1
     simp [this]
    ·have hne : (k == i) = false := by simpa using hki
     simp [Array.getElem?_setIfInBounds_ne (Ne.symm hki), hne]
   refine ih _ _ G' a' w' (by simpa using hl) ?_ ?_ (hinv _ _ hI) (hrest _ hs1) hs' hQ
   ·rw [hset0]; have : (restOf ops listed).length = (pre0 ++ i :: post0).length := by rw [← f1]; rfl
    simp at this ⊢; omega
   ·intro j oj hj hDj e he hb
    have hkeep : ∀ k, listed.getD k false = true -> (listed.setIfInBounds i true).getD k false = true := fun k hk => by
     by_cases hki : k = i
     ·subst hki; have : k < listed.size := by rw [hl]; exact h1
      simp [this]
     ·simp only [Array.getD_eq_getD_getElem?] at hk ⊢; rw [Array.getElem?_setIfInBounds_ne (Ne.symm hki)]; exact hk
    by_cases hji : j = i
    ·subst hji; rw [ho] at hj; cases hj; exact hkeep _ (hpre e he hb)
    ·refine hkeep _ (hD j oj hj ?_ e he hb); simp only [Array.getD_eq_getD_getElem?] at hDj ⊢
     rwa [Array.getElem?_setIfInBounds_ne (Ne.symm hji)] at hDj
theorem WP.region_mult (hm : P.follows .mixedOrders = true) {id : Nat} {tk : Nat -> Nat -> Bool} (hc : cOps P nt tk ops ops.toList = some rs) (hi : indepMult ops rs pi cs = true) {q : List (Nat × ROp)} (hq : multOps rs cs pi = some q) {s : St} {Q : AX -> St -> Prop} (h : multK P (lookS q) q s (Q .normal)) : WP P nt fl (.region id ops true) s Q := fun E G a w rd n hs he => by
 obtain ⟨h1, h2⟩ := cOps_spec hc; have h3 := multK_seq hq h; refine wpIn_region_any hm ?_; refine any_multG (V := lookS q) (lookS_spec hq) (fun _ => True) (fun _ _ _ => trivial) (masks_ok _) (fun i o ho => h2 i o (by simpa using ho)) hi he.1 ops.size _ s G a _ (by simp) ?_ ?_ trivial ?_ hs.drew fun s' G' a' w' h4 h5 => ⟨.normal, s', G', rfl, h4, h5⟩
 ·exact Nat.le_trans (List.length_filter_le _ _) (by simp)
 ·intro i o _ hD; simp only [Array.getD_eq_getD_getElem?, Array.getElem?_replicate] at hD; split at hD <;> cases hD
 ·rw [List.filter_eq_self.2]
  ·exact h3
  ·intro i hi; have hlt := multOps_lt hq i hi; have hlen : rs.length = ops.size := by simpa using h1.symm
   simp [show i < ops.size by omega]
theorem seqM_app {V : List Nat} {K : St -> Prop} : ∀ {pre post : List Nat} {s : St}, seqM P rs cs V pre s (fun sm => seqM P rs cs V post sm K) -> seqM P rs cs V (pre ++ post) s K
 | [], post, s, h => h
 | k :: pre, post, s, ⟨r, hr, h⟩ => by
  refine ⟨r, hr, ?_⟩; revert h
  cases cs.getD k 0 with
  | zero => exact fun h => ROp.mono (fun s' hs' => seqM_app hs') h
  | succ c =>
   cases c with
   | zero => exact fun h => ROp.mono (fun s' hs' => seqM_app hs') h
   | succ c => exact fun h => ROp.mono (fun s' hs' => ⟨hs'.h, seqM_app hs'.k⟩) h
theorem seqM_mono {V : List Nat} {K K' : St -> Prop} (hk : ∀ x, K x -> K' x) : ∀ {pre : List Nat} {s : St}, seqM P rs cs V pre s K -> seqM P rs cs V pre s K'
 | [], s, h => hk _ h
 | k :: pre, s, ⟨r, hr, h⟩ => by
  refine ⟨r, hr, ?_⟩; revert h
  cases cs.getD k 0 with
  | zero => exact fun h => ROp.mono (fun s' hs' => seqM_mono hk hs') h
  | succ c =>
   cases c with
   | zero => exact fun h => ROp.mono (fun s' hs' => seqM_mono hk hs') h
   | succ c => exact fun h => ROp.mono (fun s' hs' => ⟨hs'.h, seqM_mono hk hs'.k⟩) h
def lateB (ms : List Nat) (x y : Nat) : List Nat -> Bool
 | [] => true
 | i :: l => (Nat.beq i x || Nat.beq i y || (ms.getD i 0).testBit x || (ms.getD i 0).testBit y) && lateB ms x y l
theorem lateB_spec {ms : List Nat} {x y : Nat} : ∀ {l : List Nat}, lateB ms x y l = true -> ∀ i ∈ l, i = x ∨ i = y ∨ (ms.getD i 0).testBit x = true ∨ (ms.getD i 0).testBit y = true
 | [], _, i, hi => by cases hi
 | k :: l, h, i, hi => by
  simp only [lateB, Bool.and_eq_true, Bool.or_eq_true] at h; rcases List.mem_cons.1 hi with rfl | hi
  ·rcases h.1 with ((h1 | h1) | h1) | h1
   ·exact .inl (Nat.eq_of_beq_eq_true h1)
   ·exact .inr (.inl (Nat.eq_of_beq_eq_true h1))
   ·exact .inr (.inr (.inl h1))
   ·exact .inr (.inr (.inr h1))
  ·exact lateB_spec h.2 i hi
def lookB (qa q1 q2 : List (Nat × ROp)) : List Nat := lookS qa ++ (lookS q1 ++ lookS q2)
def bothOk (ops : Array Oper) (rs : List ROp) (cs A : List Nat) (x y : Nat) (B1 B2 : List Nat) : Bool :=
 indepMS ops rs (A ++ x :: B1) cs (maskXY (masksFrom [] ops.toList) x y) && (indepMS ops rs (A ++ y :: B2) cs (maskXY (masksFrom [] ops.toList) y x) && (rowsM rs cs (masksFrom [] ops.toList) [] A && (!(Nat.beq x y) && lateB (masksFrom [] ops.toList) x y B1)))
theorem maskXY_other {ms : List Nat} {x y i : Nat} (h : i ≠ y) : (maskXY ms x y).getD i 0 = ms.getD i 0 := by
 simp only [maskXY, List.getD_eq_getElem?_getD]; rw [List.getElem?_set_ne (Ne.symm h)]
theorem any_bothNil {listed : Array Bool} (hedges : edgesOk ops.toList 0 = true) (hl : listed.size = ops.size) (hr : Region.ready .any ops listed = []) (hne : ∃ x, x ∈ restOf ops listed) : False := by
 rcases hq : restOf ops listed with _ | ⟨i, l⟩
 ·obtain ⟨x, hx⟩ := hne; rw [hq] at hx; cases hx
 ·have hsort : (restOf ops listed).Pairwise (· < ·) := List.pairwise_lt_range.filter _; rw [hq] at hsort; have hfirst := (List.pairwise_cons.1 hsort).1; have hmem : i ∈ restOf ops listed := by rw [hq]; simp
  simp only [restOf, List.mem_filter, List.mem_range, Bool.not_eq_true'] at hmem
  have hin : i ∈ Region.ready .any ops listed := by
   simp only [Region.ready, List.mem_filter, List.mem_range, Bool.and_eq_true, Bool.not_eq_true']; refine ⟨hmem.1, hmem.2, ?_⟩; rw [Array.getElem?_eq_getElem hmem.1]; simp only [Option.map_some, Option.getD_some, Array.all_eq_true_iff_forall_mem, Bool.or_eq_true, Bool.not_eq_true']; intro e he
   cases hb : Region.binds .any e with
   | false => exact .inl rfl
   | true =>
    have hlt := edgesOk_spec hedges i ops[i] (by simp [hmem.1]) e he hb
    rw [Nat.zero_add] at hlt; refine .inr ?_
    cases hlk : listed.getD e.on false with
    | true => rfl
    | false =>
     exfalso
     have hlk2 : listed.getD e.on true = false := by
      have hsz : e.on < listed.size := by rw [hl]; omega
      simpa [hsz] using hlk
     have hin2 : e.on ∈ restOf ops listed := by
      simp only [restOf, List.mem_filter, List.mem_range, Bool.not_eq_true']; exact ⟨by omega, hlk2⟩
     rw [hq] at hin2; rcases List.mem_cons.1 hin2 with h5 | h5
     ·omega
     ·have := hfirst _ h5; omega
  rw [hr] at hin; cases hin
theorem any_bothLen {listed : Array Bool} {i fuel : Nat} (hl : listed.size = ops.size) (h1 : i < ops.size) (h2 : listed.getD i true = false) (hlen : (restOf ops listed).length ≤ fuel + 1) : (restOf ops (listed.setIfInBounds i true)).length ≤ fuel := by
 have hmem : i ∈ List.range ops.size := by simpa using h1
 obtain ⟨pre0, post0, f1, f2, f3⟩ := filter_split (fun k => !listed.getD k true) i (List.range ops.size) hmem (by simp [h2]) List.pairwise_lt_range
 have hset0 : restOf ops (listed.setIfInBounds i true) = pre0 ++ post0 := by
  rw [← f3]; unfold restOf; refine List.filter_congr fun k hk => ?_
  by_cases hki : k = i
  ·subst hki; have : k < listed.size := by rw [hl]; exact h1
   simp [this]
  ·have hne : (k == i) = false := by simpa using hki
   simp [Array.getElem?_setIfInBounds_ne (Ne.symm hki), hne]
 rw [hset0]; have : (restOf ops listed).length = (pre0 ++ i :: post0).length := by rw [← f1]; rfl
 simp at this ⊢; omega
theorem any_bothClosed {listed : Array Bool} {i : Nat} {o : Oper} (hl : listed.size = ops.size) (h1 : i < ops.size) (ho : ops[i]? = some o) (hpre : ∀ e ∈ o.after, Region.binds .any e = true -> listed.getD e.on false = true) (hD : Closed ops (fun i => listed.getD i false = true)) : Closed ops (fun j => (listed.setIfInBounds i true).getD j false = true) := by
 intro j oj hj hDj e he hb
 have hkeep : ∀ k, listed.getD k false = true -> (listed.setIfInBounds i true).getD k false = true := fun k hk => by
  by_cases hki : k = i
  ·subst hki; have : k < listed.size := by rw [hl]; exact h1
   simp [this]
  ·simp only [Array.getD_eq_getD_getElem?] at hk ⊢; rw [Array.getElem?_setIfInBounds_ne (Ne.symm hki)]; exact hk
 by_cases hji : j = i
 ·subst hji; rw [ho] at hj; cases hj; exact hkeep _ (hpre e he hb)
 ·refine hkeep _ (hD j oj hj ?_ e he hb); simp only [Array.getD_eq_getD_getElem?] at hDj ⊢
  rwa [Array.getElem?_setIfInBounds_ne (Ne.symm hji)] at hDj
theorem any_both {K : St -> Prop} {A B1 B2 V : List Nat} {x y : Nat} (hV : ∀ k ∈ A ++ x :: B1 ++ (A ++ y :: B2), cs.getD k 0 = 0 -> ∀ z, rs[k]? = some z -> z.rx.looks = true -> ∀ t ∈ slotsOf z.rx.opds, t ∈ V) (hc : ∀ (i : Nat) (o : Oper), ops[i]? = some o -> ∃ r, rs[i]? = some r ∧ OpC P nt ops o r) (hi : bothOk ops rs cs A x y B1 B2 = true) {Q : Exit -> Act -> World -> Prop} (hnt : E.nt = nt) :
  ∀ (fuel : Nat) (listed : Array Bool) (s : St) (G : Gh) (a : Act) (w : World), listed.size = ops.size -> (restOf ops listed).length ≤ fuel -> Closed ops (fun i => listed.getD i false = true) -> (∀ i, i ∈ x :: B1 ∨ i ∈ y :: B2 -> listed.getD i true = false) ->
   seqM P rs cs V (A.filter fun k => !listed.getD k true) s (fun sA => seqM P rs cs V (x :: B1) sA K ∧ seqM P rs cs V (y :: B2) sA K) -> RS E G s a w ->
   (∀ s' G' a' w', K s' -> RS E G' s' a' w' -> Q .normal a' w') -> wpAnyIn (F0 rd) n P .any ops Q fuel listed a w := by
 simp only [bothOk, Bool.and_eq_true, Bool.not_eq_true'] at hi; obtain ⟨hi1, hi2, hrA, hxy, hlate⟩ := hi; have hxy : x ≠ y := fun e => by subst e; rw [show Nat.beq x x = true from by simp] at hxy; cases hxy
 have hI1 := hi1; have hI2 := hi2; simp only [indepMS, Bool.and_eq_true] at hi1 hi2; obtain ⟨⟨hssa1, hedges⟩, hnd1, hbel1, hrows1⟩ := hi1; obtain ⟨⟨hssa2, _⟩, hnd2, hbel2, hrows2⟩ := hi2; obtain ⟨p1, p2⟩ := ssaB_spec hssa1; obtain ⟨p3, p4⟩ := ssaB_spec hssa2; have hnd1 := nodupB_spec hnd1; have hnd2 := nodupB_spec hnd2; have hbel1 := allBelow_spec hbel1; have hbel2 := allBelow_spec hbel2; have hM : MaskOk ops (masksFrom [] ops.toList) fun _ => True := masks_ok _
 have hready : ∀ (listed : Array Bool) i, listed.size = ops.size -> i ∈ Region.ready .any ops listed -> i < ops.size ∧ listed.getD i true = false ∧ ∃ o, ops[i]? = some o ∧ ∀ e ∈ o.after, Region.binds .any e = true -> listed.getD e.on false = true := fun listed i hl h => by
  simp only [Region.ready, List.mem_filter, List.mem_range, Bool.and_eq_true, Bool.not_eq_true'] at h; obtain ⟨h1, h2, h3⟩ := h; refine ⟨h1, h2, ops[i], Array.getElem?_eq_getElem h1, fun e he hb => ?_⟩; rw [Array.getElem?_eq_getElem h1] at h3; simp only [Option.map_some, Option.getD_some, Array.all_eq_true_iff_forall_mem, Bool.or_eq_true, Bool.not_eq_true'] at h3; rcases h3 e he with h4 | h4
  ·rw [hb] at h4; cases h4
  ·exact h4
 have hfil : ∀ (listed : Array Bool) (B : List Nat), (∀ i ∈ B, listed.getD i true = false) -> (B.filter fun k => !listed.getD k true) = B := fun listed B h => List.filter_eq_self.2 fun k hk => by rw [h k hk]; rfl
 intro fuel
 induction fuel with
 | zero =>
  intro listed s G a w hl hlen hD hB hex hs hQ; exfalso; have hx := hB x (.inl (by simp))
  have hlt : x < ops.size := by
   rcases Nat.lt_or_ge x ops.size with h1 | h1
   ·exact h1
   ·rw [Array.getD_eq_getD_getElem?, Array.getElem?_eq_none (by omega)] at hx; cases hx
  have : x ∈ restOf ops listed := by simp only [restOf, List.mem_filter, List.mem_range]; exact ⟨hlt, by simp [hx]⟩
  have := List.length_pos_of_mem this
  omega
 | succ fuel ih =>
  intro listed s G a w hl hlen hD hB hex hs hQ; have hx := hB x (.inl (by simp))
  have hy := hB y (.inr (by simp))
  have hgd : ∀ k, listed.getD k true = false -> listed.getD k false = false := fun k hk => by
   simp only [Array.getD_eq_getD_getElem?] at hk ⊢
   cases hq : listed[k]? with
   | none => rw [hq] at hk; cases hk
   | some b => rw [hq] at hk; simpa using hk
  have hltx : x < ops.size := by
   rcases Nat.lt_or_ge x ops.size with h1 | h1
   ·exact h1
   ·rw [Array.getD_eq_getD_getElem?, Array.getElem?_eq_none (by omega)] at hx; cases hx
  have E1 : seqM P rs cs V ((A ++ x :: B1).filter fun k => !listed.getD k true) s K := by
   rw [List.filter_append, hfil listed (x :: B1) fun i hi => hB i (.inl hi)]; exact seqM_app (seqM_mono (fun _ h => h.1) hex)
  have E2 : seqM P rs cs V ((A ++ y :: B2).filter fun k => !listed.getD k true) s K := by
   rw [List.filter_append, hfil listed (y :: B2) fun i hi => hB i (.inr hi)]
   exact seqM_app (seqM_mono (fun _ h => h.2) hex)
  -- the part of what comes up: by the masks, as if one order alone were meant
  refine ⟨fun hr => ?_, fun i hi' => ?_⟩
  ·exact (any_bothNil hedges hl hr ⟨x, by simp only [restOf, List.mem_filter, List.mem_range]; exact ⟨hltx, by simp [hx]⟩⟩).elim
  ·obtain ⟨h1, h2, o, ho, hpre⟩ := hready listed i hl hi'; obtain ⟨r, hr, hoc⟩ := hc i o ho; have hlen' : (restOf ops (listed.setIfInBounds i true)).length ≤ fuel := any_bothLen hl h1 h2 hlen; have hD' : Closed ops (fun j => (listed.setIfInBounds i true).getD j false = true) := any_bothClosed hl h1 ho hpre hD; have hsz : (listed.setIfInBounds i true).size = ops.size := by simpa using hl
   have hself : (listed.setIfInBounds i true).getD i false = true := by
    have : i < listed.size := by rw [hl]; exact h1
    simp [this]
   have hother : ∀ k, k ≠ i -> (listed.setIfInBounds i true).getD k true = listed.getD k true := fun k hki => by
    simp only [Array.getD_eq_getD_getElem?]; rw [Array.getElem?_setIfInBounds_ne (Ne.symm hki)]
   have keepInv : ∀ z (l : Array Bool) j, l.getD z false = true -> (l.setIfInBounds j true).getD z false = true := fun z l j hz => by
    by_cases hzj : z = j
    ·subst hzj
     by_cases hlt : z < l.size
     ·simp [hlt]
     ·simp only [Array.getD_eq_getD_getElem?] at hz; rw [Array.getElem?_eq_none (by omega)] at hz; cases hz
    ·simp only [Array.getD_eq_getD_getElem?] at hz ⊢; rw [Array.getElem?_setIfInBounds_ne (Ne.symm hzj)]; exact hz
   have hbits : ∀ k, ((masksFrom [] ops.toList).getD i 0).testBit k = true -> listed.getD k false = true := fun k hk => hM listed hD trivial i o h1 ho hpre k hk
   by_cases hix : i = x
   ·subst hix; obtain ⟨dr, K1, hrun, hrest⟩ := stepBo (ms := maskXY (masksFrom [] ops.toList) i y) p1 p2 (fun k hk => hV k (List.mem_append_left _ hk)) hnd1 (hbel1 i h1) hrows1 (by rw [hl]; exact h1) h2 hr (fun k hk => hbits k (by rwa [maskXY_other hxy] at hk)) E1
    refine op_sound hoc ho hrun hs hnt fun s' G' a' w' hs1 hs' _ => ?_; exact any_multG (V := V) (fun k hk => hV k (List.mem_append_left _ hk)) (fun l => l.getD i false = true) (fun l j hz => keepInv i l j hz) (maskXY_ok hM) hc hI1 hnt fuel _ _ G' a' w' hsz hlen' hD' hself (hrest _ hs1) hs' hQ
   ·by_cases hiy : i = y
    ·subst hiy; obtain ⟨dr, K1, hrun, hrest⟩ := stepBo (ms := maskXY (masksFrom [] ops.toList) i x) p3 p4 (fun k hk => hV k (List.mem_append_right _ hk)) hnd2 (hbel2 i h1) hrows2 (by rw [hl]; exact h1) h2 hr (fun k hk => hbits k (by rwa [maskXY_other hix] at hk)) E2
     refine op_sound hoc ho hrun hs hnt fun s' G' a' w' hs1 hs' _ => ?_; exact any_multG (V := V) (fun k hk => hV k (List.mem_append_right _ hk)) (fun l => l.getD i false = true) (fun l j hz => keepInv i l j hz) (maskXY_ok hM) hc hI2 hnt fuel _ _ G' a' w' hsz hlen' hD' hself (hrest _ hs1) hs' hQ
    ·have hiA : i ∈ A := by
      rcases List.mem_append.1 (hbel1 i h1) with h | h
      ·exact h
      ·rcases List.mem_cons.1 h with h | h
       ·exact (hix h).elim
       ·rcases lateB_spec hlate i h with h | h | h | h
        ·exact (hix h).elim
        ·exact (hiy h).elim
        ·have := hbits x h; rw [hgd x hx] at this; cases this
        ·have := hbits y h; rw [hgd y hy] at this; cases this
     obtain ⟨dr, K1, hrun, hrest⟩ := stepBo (ms := masksFrom [] ops.toList) (List.pairwise_append.1 p1).1 (fun k hk => p2 k (List.mem_append_left _ hk)) (fun k hk => hV k (List.mem_append_left _ (List.mem_append_left _ hk))) (List.nodup_append.1 hnd1).1 hiA hrA (by rw [hl]; exact h1) h2 hr hbits hex
     refine op_sound hoc ho hrun hs hnt fun s' G' a' w' hs1 hs' _ => ?_; refine ih _ _ G' a' w' hsz hlen' hD' (fun k hk => ?_) (hrest _ hs1) hs' hQ
     have hki : k ≠ i := fun e => by
      subst e; have d1 := (List.nodup_append.1 hnd1).2.2 k hiA; have d2 := (List.nodup_append.1 hnd2).2.2 k hiA; rcases hk with hk | hk
      ·exact d1 k hk rfl
      ·exact d2 k hk rfl
     rw [hother k hki]; exact hB k hk
theorem WP.region_both (hm : P.follows .mixedOrders = true) {id : Nat} {tk : Nat -> Nat -> Bool} {A B1 B2 : List Nat} {x y : Nat} (hc : cOps P nt tk ops ops.toList = some rs) (hi : bothOk ops rs cs A x y B1 B2 = true) {qa q1 q2 : List (Nat × ROp)} (ha : multOps rs cs A = some qa) (h1 : multOps rs cs (x :: B1) = some q1) (h2 : multOps rs cs (y :: B2) = some q2) {s : St} {Q : AX -> St -> Prop}
  (h : multK P (lookB qa q1 q2) qa s fun sA => multK P (lookB qa q1 q2) q1 sA (Q .normal) ∧ multK P (lookB qa q1 q2) q2 sA (Q .normal)) : WP P nt fl (.region id ops true) s Q := fun E G a w rd n hs he => by
 obtain ⟨hz, hcc⟩ := cOps_spec hc
 have hnil : ∀ k, k < rs.length -> (Array.replicate ops.size false).getD k true = false := fun k hk => by
  have hlen : rs.length = ops.size := by simpa using hz.symm
  simp [show k < ops.size by omega]
 refine wpIn_region_any hm ?_; refine any_both (V := lookB qa q1 q2) (fun k hk h0 z hz hl t ht => ?_) (fun i o ho => hcc i o (by simpa using ho)) hi he.1 ops.size _ s G a _ (by simp) ?_ ?_ ?_ ?_ hs.drew fun s' G' a' w' h4 h5 => ⟨.normal, s', G', rfl, h4, h5⟩
 ·simp only [lookB, List.mem_append]; rcases List.mem_append.1 hk with hk | hk <;> rcases List.mem_append.1 hk with hk | hk
  ·exact .inl (lookS_spec ha k hk h0 z hz hl t ht)
  ·exact .inr (.inl (lookS_spec h1 k hk h0 z hz hl t ht))
  ·exact .inl (lookS_spec ha k hk h0 z hz hl t ht)
  ·exact .inr (.inr (lookS_spec h2 k hk h0 z hz hl t ht))
 ·exact Nat.le_trans (List.length_filter_le _ _) (by simp)
 ·intro i o _ hD; simp only [Array.getD_eq_getD_getElem?, Array.getElem?_replicate] at hD; split at hD <;> cases hD
 ·rintro i (hi | hi)
  ·exact hnil i (multOps_lt h1 i hi)
  ·exact hnil i (multOps_lt h2 i hi)
 ·rw [List.filter_eq_self.2 fun k hk => by rw [hnil k (multOps_lt ha k hk)]; rfl]
  exact multK_seq ha (multK_mono (fun _ hx => ⟨multK_seq h1 hx.1, multK_seq h2 hx.2⟩) h)
end
end Go.AM
namespace Go.AM
open Go.CK Go.RowKit
section
variable {E : Entry} {G : Gh} {s : St} {a : Act} {w : World} {P : Program}
theorem mark_inj {D D' : Nat} (h : mark D = mark D') : D = D' := by
 simp only [mark, Deferred.mk.injEq, Target.collected.injEq] at h; exact h.1
theorem RS.unmark (h : RS E G s a w) {D : Nat} {ds : List Deferred} (hd : a.defers = mark D :: ds) (hdd : ∃ Ds : List Nat, ds = Ds.map mark ++ E.dd) : (Instr.takeDeferred D).run P w = .ok [] (w.putObj D (.deferred none)) ∧ RS E G s ⟨a.tmps, ds⟩ (w.putObj D (.deferred none)) := by
 obtain ⟨h1, h2, h3⟩ := h.sp.ob D (.deferred (some [])) (.inr ⟨by rw [hd]; simp, rfl⟩)
 refine ⟨run_takeDeferred h1, ?_⟩; obtain ⟨_, _, hnd⟩ := h.sp.ds; rw [hd] at hnd; obtain ⟨Ds, e2⟩ := hdd
 refine h.turn (.deferred none) h1 rfl h3 rfl (fun _ => rfl) ⟨fun B o hs => ?_, h.sp.base, h.sp.inj, ⟨Ds, e2, (List.nodup_cons.1 hnd).2⟩, fun b x hb j B o hj => by
  obtain ⟨h4, h5, h6⟩ := h.sp.rows b x hb j B o hj; have hne : B ≠ D := fun e => h2 _ (e ▸ h5); exact ⟨by rw [World.putObj_heap_other hne]; exact h4, h5, h6⟩⟩
 have hs' : Spc G.σ s.bs a.defers B o := by
  rcases hs with hs | ⟨hm, ho⟩
  ·exact .inl hs
  ·exact .inr ⟨by rw [hd]; exact List.mem_cons_of_mem _ hm, ho⟩
 obtain ⟨h4, h5, h6⟩ := h.sp.ob B o hs'
 have hne : B ≠ D := fun e => by
  subst e; rcases hs with ⟨b, x, hb, e, ho⟩ | ⟨hm, ho⟩
  ·exact x.obj_nd (h1.symm.trans (ho ▸ h4))
  ·exact (List.nodup_cons.1 hnd).1 hm
 exact ⟨by rw [World.putObj_heap_other hne]; exact h4, h5, h6⟩
theorem RS.leaves {fn : Func} {R : Ending -> World -> Prop} (hE : E.dd = []) : ∀ (ds : List Deferred) {a : Act} {w : World}, RS E G s a w -> a.defers = ds ->
  (∀ w', RS E G s ⟨a.tmps, []⟩ w' -> LeavesIn (F0 none) 0 P fn a.tmps R [] .returning w') -> LeavesInM (F0 none) 0 P fn a.tmps R ds .returning w
 | [], a, w, h, hd, k => k w (by rw [← hd]; exact h)
 | d :: ds, a, w, h, hd, k => by
  obtain ⟨Ds, hDs, _⟩ := h.sp.ds; rw [hd, hE, List.append_nil] at hDs
  cases Ds with
  | nil => cases hDs
  | cons D Ds =>
   simp only [List.map_cons, List.cons.injEq] at hDs; obtain ⟨rfl, e⟩ := hDs; obtain ⟨h1, h2⟩ := h.unmark (P := P) hd ⟨Ds, by rw [hE, List.append_nil]; exact e⟩
   exact ⟨by simp, .inl ⟨D, _, rfl, h1, RS.leaves hE (a := ⟨a.tmps, ds⟩) ds h2 rfl k⟩⟩
theorem RS.reE {E' : Entry} (h : RS E G s a w) (hfr : Fr E'.FP E'.M E'.w G.M w) (hm : ∀ B, E.FP B ∨ E.w.heap.size ≤ B -> E'.FP B ∨ E'.w.heap.size ≤ B) (hnt : E'.nt = E.nt) (hnb : E'.nb = E.nb) (hσ : E'.σ0 = E.σ0) (hdd : E'.dd = E.dd) : RS E' G s a w :=
 ⟨hfr, h.ok, h.nt.trans hnt.symm, h.val, h.one, h.box, fun b cs hb => ⟨(h.bmem b cs hb).1, hm _ (h.bmem b cs hb).2⟩, h.inj, fun p z l hp => by
  obtain ⟨ad, k, h1, h2, h3⟩ := h.own p z l hp; refine ⟨ad, k, h1, h2, ?_⟩; rcases h3 with h3 | ⟨B, hB, h4, h5⟩
  ·exact .inl h3
  ·exact .inr ⟨B, hB, h4, h5.lt, h5.cells, h5.free, hm _ h5.mine⟩, h.clinj, h.clbox, fun p B hB => ⟨(h.cllt p B hB).1, hm _ (h.cllt p B hB).2⟩, h.lo.trans hnb.symm, by rw [hnb]; exact h.len, by rw [hnb, hσ]; exact h.sig, by
  rw [hdd]; exact h.sp.step (Hp.le_refl _) (fun _ _ => rfl) (fun _ _ k => k) (fun _ _ k _ => k) (fun _ _ _ _ p k => ⟨p, k⟩) hm⟩
def All (G : Gh) (bs : List Box) (ds : List Deferred) (B : Nat) : Prop := (∃ b cs, boxCells bs b = some cs ∧ G.σ b = B) ∨ (∃ p, G.cl p = some B) ∨ (∃ o, Spc G.σ bs ds B o)
theorem RS.rebase (h : RS E G s a w) : RS ⟨All G s.bs a.defers, G.M, w, E.nt, E.nb, E.σ0, E.dd⟩ G s a w :=
 ⟨Fr.refl _ _ _ h.fr.kn, h.ok, h.nt, h.val, h.one, h.box, fun b cs hb => ⟨(h.bmem b cs hb).1, .inl (.inl ⟨b, cs, hb, rfl⟩)⟩, h.inj, fun p z l hp => by
  obtain ⟨ad, k, h1, h2, h3⟩ := h.own p z l hp; refine ⟨ad, k, h1, h2, ?_⟩; rcases h3 with h3 | ⟨B, hB, h4, h5⟩
  ·exact .inl h3
  ·exact .inr ⟨B, hB, h4, h5.lt, h5.cells, h5.free, .inl (.inr (.inl ⟨p, hB⟩))⟩, h.clinj, h.clbox, fun p B hB => ⟨(h.cllt p B hB).1, .inl (.inr (.inl ⟨p, hB⟩))⟩, h.lo, h.len, h.sig,
  ⟨fun B o hs => ⟨(h.sp.ob B o hs).1, (h.sp.ob B o hs).2.1, .inl (.inr (.inr ⟨o, hs⟩))⟩, h.sp.base, h.sp.inj, h.sp.ds, h.sp.rows⟩⟩
theorem RS.all_mine (h : RS E G s a w) {B : Nat} (hB : All G s.bs a.defers B) : E.FP B ∨ E.w.heap.size ≤ B := by
 rcases hB with ⟨b, cs, hb, rfl⟩ | ⟨p, hp⟩ | ⟨o, hs⟩
 ·exact (h.bmem b cs hb).2
 ·exact (h.cllt p B hp).2
 ·exact (h.sp.ob B o hs).2.2
theorem RS.slots {bs : List Box} {lo : Nat} (h0 : RS E G ⟨[], bs, lo⟩ a w) {env : List (Nat × AV)} (he : ∀ t y, envGet env t = some y -> RV G.M G.σ bs.length y (a.tmps.getD t undef)) : RS E G ⟨env, bs, lo⟩ a w := by
 have hat : ∀ p x, (⟨env, bs, lo⟩ : St).at p = some x -> (∃ t, p = .sl t ∧ envGet env t = some x) ∨ (∃ b j, p = .bx b j ∧ (⟨[], bs, lo⟩ : St).at (.bx b j) = some x) := fun p x hp => by
  cases p with
  | sl t => exact .inl ⟨t, rfl, hp⟩
  | bx b j => exact .inr ⟨b, j, rfl, hp⟩
 refine ⟨h0.fr, h0.ok, h0.nt, fun p x hp => ?_, fun b j x hp => h0.one b j x hp, h0.box, h0.bmem, h0.inj, fun p z l hp => ?_, h0.clinj, h0.clbox, h0.cllt, h0.lo, h0.len, h0.sig, h0.sp⟩
 ·rcases hat p x hp with ⟨t, rfl, ht⟩ | ⟨b, j, rfl, hx⟩
  ·have h1 := he t x ht; show RV G.M G.σ bs.length x.deown (a.tmps.getD t undef); rw [h1.deown_of]; exact h1
  ·exact h0.val _ _ hx
 ·rcases hat p _ hp with ⟨t, rfl, ht⟩ | ⟨b, j, rfl, hx⟩
  ·have := (he t _ ht).deown_of; simp [AV.deown] at this
  ·exact h0.own _ _ _ hx
def noSlots (cl : Pl -> Option Nat) : Pl -> Option Nat
 | .sl _ => none
 | .bx b j => cl (.bx b j)
theorem RS.reAct (h : RS E G s a w) (E' : Entry) (a' : Act) (hfr : Fr E'.FP E'.M E'.w G.M w) (hnt : a'.tmps.size = E'.nt) (lo : Nat) (hlo : lo = E'.nb) (hlen : E'.nb ≤ s.bs.length) (hsig : ∀ b, b < E'.nb -> G.σ b = E'.σ0 b)
  (hmine : ∀ B, (FPof G s.bs B) -> E'.FP B ∨ E'.w.heap.size ≤ B) (hds : a'.defers = []) (hdd : E'.dd = [] := by rfl) : RS E' { G with cl := noSlots G.cl } ⟨[], s.bs, lo⟩ a' w := by
 have hat : ∀ p x, (⟨[], s.bs, lo⟩ : St).at p = some x -> ∃ b j, p = .bx b j ∧ s.at (.bx b j) = some x := fun p x hp => by
  cases p with
  | sl t => simp [St.at, envGet] at hp
  | bx b j => exact ⟨b, j, rfl, hp⟩
 have hcl : ∀ p B, noSlots G.cl p = some B -> ∃ b j, p = .bx b j ∧ G.cl (.bx b j) = some B := fun p B hp => by
  cases p with
  | sl t => cases hp
  | bx b j => exact ⟨b, j, rfl, hp⟩
 refine ⟨hfr, h.ok, hnt, fun p x hp => ?_, fun b j x hp => ?_, h.box, fun b cs hb => ⟨(h.bmem b cs hb).1, hmine _ (.inl ⟨b, cs, hb, rfl⟩)⟩, h.inj, fun p z l hp => ?_, fun p q B hp hq => ?_, fun p B hB b cs hb => ?_, fun p B hB => ?_, hlo, hlen, hsig, ?_⟩
 ·obtain ⟨b, j, rfl, hx⟩ := hat p x hp; exact h.val _ _ hx
 ·exact h.one b j x hp
 ·obtain ⟨b, j, rfl, hx⟩ := hat p _ hp; obtain ⟨ad, k, h1, h2, h3⟩ := h.own _ _ _ hx; refine ⟨ad, k, h1, h2, ?_⟩; rcases h3 with h3 | ⟨B, hB, h4, h5⟩
  ·exact .inl h3
  ·exact .inr ⟨B, hB, h4, h5.lt, h5.cells, h5.free, hmine B (.inr (.inl ⟨b, j, hB⟩))⟩
 ·obtain ⟨b, j, rfl, hx⟩ := hcl p B hp; obtain ⟨b', j', rfl, hx'⟩ := hcl q B hq; exact h.clinj _ _ B hx hx'
 ·obtain ⟨b', j, rfl, hx⟩ := hcl p B hB; exact h.clbox _ B hx b cs hb
 ·obtain ⟨b, j, rfl, hx⟩ := hcl p B hB; exact ⟨(h.cllt _ B hx).1, hmine B (.inr (.inl ⟨b, j, hx⟩))⟩
 ·rw [hds, hdd]; refine ⟨fun B o hs => ?_, h.sp.base, h.sp.inj, ⟨[], rfl, .nil⟩, fun b x hb j B o hj => h.sp.rows b x hb j B o hj⟩; rcases hs with ⟨b, x, hb, e, ho⟩ | ⟨hmem, _⟩
  ·obtain ⟨h1, h2, _⟩ := h.sp.ob B o (.inl ⟨b, x, hb, e, ho⟩); refine ⟨h1, fun p hp => ?_, hmine B (.inr (.inr ⟨b, x, hb, e⟩))⟩; obtain ⟨b', j, rfl, hx⟩ := hcl p B hp; exact h2 _ hx
  ·cases hmem
theorem boxCells_loop {bs : List Box} {x : LB} (b : Nat) : boxCells (bs ++ [.loop x]) b = boxCells bs b := by
 rw [boxCells_append]; split
 ·rename_i e; subst e; simp [boxCells, Box.cs?]
 ·rfl
theorem boxLoop_snoc {bs : List Box} {x : LB} (b : Nat) : boxLoop (bs ++ [.loop x]) b = if b = bs.length then some x else boxLoop bs b := by
 simp only [boxLoop]
 by_cases h : b < bs.length
 ·rw [List.getElem?_append_left h, if_neg (by omega)]
 ·by_cases h2 : b = bs.length
  ·subst h2; simp [Box.lb?]
  ·rw [if_neg h2, List.getElem?_eq_none (by simp; omega), List.getElem?_eq_none (by omega)]
theorem RS.newLoop (h : RS E G s a w) (r : Loop) :
  RS E ⟨G.M, fun b => if b = s.bs.length then w.heap.size + 1 else G.σ b, G.cl⟩ ⟨s.env, s.bs ++ [.loop ⟨G.M, G.σ, s.bs.length, r, none, []⟩], s.lo⟩ ⟨a.tmps, mark w.heap.size :: a.defers⟩ ((w.alloc (.deferred (some []))).alloc (.loop r)) := by
 have hw : ∀ B, B < w.heap.size -> ((w.alloc (.deferred (some []))).alloc (.loop r)).heap[B]? = w.heap[B]? := fun B hB => (Below.heap_alloc _ _ _ (by simp; omega)).trans (Below.heap_alloc _ _ _ hB)
 have hg := h.grow (M' := G.M) (w' := (w.alloc (.deferred (some []))).alloc (.loop r)) ⟨rfl, rfl, rfl, by simp; omega, Hp.le_refl _, fun B hB _ => hw B hB, fun _ _ _ _ => rfl⟩ (fun b o v hv => by
  have := h.ok b o v hv; simp only [Hp.of] at this ⊢; rw [cell_heap (hw b (Hp.lt h.ok hv))]; exact this)
 have hsz : E.w.heap.size ≤ w.heap.size := h.fr.size
 have hL : ((w.alloc (.deferred (some []))).alloc (.loop r)).heap[w.heap.size + 1]? = some (.loop r) := by
  have := World.alloc_heap_new (w.alloc (.deferred (some []))) (.loop r)
  rwa [World.size_alloc] at this
 have hD : ((w.alloc (.deferred (some []))).alloc (.loop r)).heap[w.heap.size]? = some (.deferred (some [])) := (Below.heap_alloc _ _ _ (by simp)).trans (World.alloc_heap_new w _)
 generalize (w.alloc (.deferred (some []))).alloc (.loop r) = w' at *
 have hat : ∀ p, (⟨s.env, s.bs ++ [.loop ⟨G.M, G.σ, s.bs.length, r, none, []⟩], s.lo⟩ : St).at p = s.at p := fun p => by
  cases p with
  | sl t => rfl
  | bx b j => simp only [St.at, boxCells_loop]
 have hσ : ∀ b, b < s.bs.length -> (if b = s.bs.length then w.heap.size + 1 else G.σ b) = G.σ b := fun b hb => by rw [if_neg (by omega)]
 have hval : ∀ p x, s.at p = some x -> valAt (fun b => if b = s.bs.length then w.heap.size + 1 else G.σ b) ⟨a.tmps, mark w.heap.size :: a.defers⟩ w' p = valAt G.σ a w' p := fun p x hp => by
  cases p with
  | sl t => rfl
  | bx b j =>
   simp only [St.at] at hp
   cases hb : boxCells s.bs b with
   | none => rw [hb] at hp; cases hp
   | some cs => simp only [valAt]; rw [hσ b (boxCells_lt hb)]
 have hnocl : ∀ B, w.heap.size ≤ B -> ∀ p, G.cl p ≠ some B := fun B hB p hp => by
  have := (h.cllt p B hp).1; omega
 refine ⟨hg.fr, hg.ok, h.nt, fun p x hp => ?_, fun b j x hp => ?_, fun b cs hb => ?_, fun b cs hb => ?_, fun b b' cs cs' hb hb' e => ?_, fun p z l hp => ?_, h.clinj, fun p B hB b cs hb => ?_, hg.cllt, h.lo, by simp only [List.length_append]; exact Nat.le_add_right_of_le h.len, fun b hb => ?_, ?_⟩
 ·rw [hat] at hp; rw [hval p x hp]; exact (hg.val p x hp).mono (Hp.le_refl _) (by simp) hσ
 ·rw [hat] at hp; rw [hval _ x hp]; exact hg.one b j x hp
 ·rw [boxCells_loop] at hb; simp only [hσ b (boxCells_lt hb)]; exact hg.box b cs hb
 ·rw [boxCells_loop] at hb; simp only [hσ b (boxCells_lt hb)]; exact hg.bmem b cs hb
 ·rw [boxCells_loop] at hb hb'; simp only [hσ b (boxCells_lt hb), hσ b' (boxCells_lt hb')] at e; exact h.inj b b' cs cs' hb hb' e
 ·rw [hat] at hp; rw [hval p _ hp]; exact hg.own p z l hp
 ·rw [boxCells_loop] at hb; simp only [hσ b (boxCells_lt hb)]; exact h.clbox p B hB b cs hb
 ·have := h.len; simp only [hσ b (by omega)]
  exact h.sig b hb
 ·have hold : ∀ b x, boxLoop s.bs b = some x -> G.σ b < w.heap.size := fun b x hb => (Array.getElem?_eq_some_iff.1 (h.sp.ob _ _ (.inl ⟨b, x, hb, rfl, rfl⟩)).1).1; obtain ⟨Ds, hDs, hnd⟩ := h.sp.ds; refine ⟨fun B o hs => ?_, fun b x hb => ?_, fun b b' x x' hb hb' e => ?_, ⟨w.heap.size :: Ds, by simp [hDs], List.nodup_cons.2 ⟨fun hm => ?_, hnd⟩⟩, fun b x hb j B o hj => ?_⟩
  ·rcases hs with ⟨b, x, hb, e, rfl⟩ | ⟨hm, rfl⟩
   ·rw [boxLoop_snoc] at hb; split at hb
    ·rename_i eb; cases hb; simp only [eb, if_true] at e; subst e; exact ⟨hL, hnocl _ (by omega), .inr (by omega)⟩
    ·simp only at e; rw [hσ b (boxLoop_lt hb)] at e; exact hg.sp.ob B _ (.inl ⟨b, x, hb, e, rfl⟩)
   ·rcases List.mem_cons.1 hm with hm | hm
    ·have := mark_inj hm; subst this; exact ⟨hD, hnocl _ (Nat.le_refl _), .inr hsz⟩
    ·exact hg.sp.ob B _ (.inr ⟨hm, rfl⟩)
  ·rw [boxLoop_snoc] at hb; split at hb
   ·rename_i eb; cases hb; exact ⟨Hp.le_refl _, by simp only; omega, fun c hc => hσ c hc⟩
   ·obtain ⟨h1, h2, h3⟩ := h.sp.base b x hb; have := boxLoop_lt hb; exact ⟨h1, h2, fun c hc => (hσ c (by omega)).trans (h3 c hc)⟩
  ·rw [boxLoop_snoc] at hb hb'; split at hb
   ·rename_i eb; split at hb'
    ·rename_i eb'; rw [eb, eb']
    ·have := hold b' x' hb'; simp only at e; rw [hσ b' (boxLoop_lt hb'), if_pos eb] at e; omega
   ·split at hb'
    ·rename_i eb'; have := hold b x hb; simp only at e; rw [hσ b (boxLoop_lt hb), if_pos eb'] at e; omega
    ·simp only [hσ b (boxLoop_lt hb), hσ b' (boxLoop_lt hb')] at e; exact h.sp.inj b b' x x' hb hb' e
  ·have h1 := (h.sp.ob w.heap.size _ (.inr ⟨hm, rfl⟩)).1; have := (Array.getElem?_eq_some_iff.1 h1).1; omega
  ·rw [boxLoop_snoc] at hb; split at hb
   ·cases hb; cases hj
   ·exact hg.sp.rows b x hb j B o hj
def LB.done (x : LB) (c : Code) : LB := { x with r := { x.r with state := .done, pending := some c } }
def roundQ (x : LB) (b : Nat) (Q : AV -> List Box -> Prop) : AX -> St -> Prop
 | .normal, s => Q (.bool true) (s.bs.set b (.loop x))
 | .ret, s => Q (.bool false) (s.bs.set b (.loop (x.done .ret)))
 | .exit id, s => Q (.bool false) (s.bs.set b (.loop (x.done (.exit id))))
def putAll : List (Nat × AV) -> List Nat -> List AV -> List (Nat × AV)
 | e, p :: ps, v :: vs => putAll (envPut e p v) ps vs
 | e, _, _ => e
def deownEnv : List (Nat × AV) -> List (Nat × AV)
 | [] => []
 | (t, v) :: r => (t, v.deown) :: deownEnv r
theorem deownEnv_get : ∀ (e : List (Nat × AV)) (t : Nat) (y : AV), envGet (deownEnv e) t = some y -> ∃ x, envGet e t = some x ∧ y = x.deown
 | [], t, y, h => by cases h
 | (k, v) :: r, t, y, h => by
  simp only [deownEnv, envGet] at h ⊢
  cases hb : Nat.beq k t with
  | true => rw [hb] at h; cases h; exact ⟨v, rfl, rfl⟩
  | false => rw [hb] at h; exact deownEnv_get r t y h
theorem putAll_ok {M : Hp} {σ : Nat -> Nat} {n : Nat} : ∀ (ps : List Nat) (vals : List AV) (args : List Value) (env : List (Nat × AV)) (tmps : Array Value), args.length = vals.length -> (∀ p ∈ ps, p < tmps.size) ->
  (∀ t y, envGet env t = some y -> RV M σ n y (tmps.getD t undef)) -> (∀ j (h : j < vals.length) v, args[j]? = some v -> RV M σ n vals[j] v) ->
  (∀ t y, envGet (putAll env ps vals) t = some y -> RV M σ n y (((ps.zip args).foldl (fun t (p, v) => t.setIfInBounds p v) tmps).getD t undef)) ∧ ((ps.zip args).foldl (fun t (p, v) => t.setIfInBounds p v) tmps).size = tmps.size
 | [], vals, args, env, tmps, _, _, h, _ => by cases vals <;> exact ⟨h, rfl⟩
 | p :: ps, [], [], env, tmps, _, _, h, _ => ⟨h, rfl⟩
 | p :: ps, v :: vals, u :: args, env, tmps, hl, hp, h, hv => by
  have hsz : (tmps.setIfInBounds p u).size = tmps.size := by simp
  have := putAll_ok ps vals args (envPut env p v) (tmps.setIfInBounds p u) (by simpa using hl) (fun q hq => by rw [hsz]; exact hp q (List.mem_cons_of_mem _ hq)) (fun t y hy => by
   rw [envGet_put] at hy; split at hy
   ·rename_i e; subst e; cases hy
    have : (tmps.setIfInBounds t u).getD t undef = u := by
     have := hp t (by simp)
     simp [this]
    rw [this]; exact hv 0 (by simp) u (by simp)
   ·rename_i e
    have : (tmps.setIfInBounds p u).getD t undef = tmps.getD t undef := by
     simp [Array.getElem?_setIfInBounds_ne (Ne.symm e)]
    rw [this]; exact h t y hy) (fun j hj v' hv' => hv (j + 1) (by simp; omega) v' (by simpa using hv'))
  simp only [putAll, List.zip_cons_cons, List.foldl_cons]
  exact ⟨this.1, this.2.trans hsz⟩
 | p :: ps, [], u :: args, env, tmps, hl, _, _, _ => by simp at hl
 | p :: ps, v :: vals, [], env, tmps, hl, _, _, _ => by simp at hl
theorem boxLoop_setLoop {bs : List Box} {b : Nat} (x : LB) (hb : b < bs.length) (c : Nat) : boxLoop (bs.set b (.loop x)) c = if c = b then some x else boxLoop bs c := by
 simp only [boxLoop, List.getElem?_set]
 by_cases e : b = c
 ·subst e; simp [hb, Box.lb?]
 ·rw [if_neg e, if_neg (fun k => e k.symm)]
theorem boxLoop_setDead {bs : List Box} {b : Nat} (c : Nat) : boxLoop (bs.set b .dead) c = if c = b then none else boxLoop bs c := by
 simp only [boxLoop, List.getElem?_set]
 by_cases e : b = c
 ·subst e
  by_cases hb : b < bs.length
  ·simp [hb, Box.lb?]
  ·simp [hb]
 ·rw [if_neg e, if_neg (fun k => e k.symm)]
theorem boxCells_setNo {bs : List Box} {b : Nat} {y : Box} (hy : y.cs? = none) (hb : boxCells bs b = none) (c : Nat) : boxCells (bs.set b y) c = boxCells bs c := by
 by_cases e : b = c
 ·subst e; rw [hb]; simp only [boxCells, List.getElem?_set]
  by_cases hl : b < bs.length
  ·simp only [if_true, hl]; exact hy
  ·simp [hl]
 ·simp only [boxCells, List.getElem?_set, if_neg e]
theorem boxCells_of_loop {bs : List Box} {b : Nat} {x : LB} (h : boxLoop bs b = some x) : boxCells bs b = none := by
 simp only [boxLoop, boxCells] at *; split at h
 ·rename_i y e; cases y <;> first | rfl | (cases h; done) | skip
 ·cases h
end
end Go.AM
