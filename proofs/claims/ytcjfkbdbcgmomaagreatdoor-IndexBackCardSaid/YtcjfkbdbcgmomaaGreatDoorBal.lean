/-
  Texts of this claim joined (wip/gen/bundle.py), those declarations only that are needed: AmZm. By an AI agent.
-/
import Derived.Test.YtcjfkbdbcgmomaaGreatDoorBak
set_option linter.unusedSimpArgs false
set_option linter.unusedVariables false
namespace Go.AM
open Go.CK Go.RowKit
def cellsD (bs : List Box) (b : Nat) : Option (List AV) := match boxCells bs b with
 | some cs => some (cs.map AV.deown)
 | none => none
def stb (bs bs' : List Box) : List AV -> Prop
 | [] => True
 | .ptr b _ :: vs => cellsD bs' b = cellsD bs b ∧ stb bs bs' vs
 | .elp b _ _ _ :: vs => cellsD bs' b = cellsD bs b ∧ stb bs bs' vs
 | _ :: vs => stb bs bs' vs
def Chk (vs : List AV) (bs bs' : List Box) : Prop := (∃ t, bs' = bs ++ t) ∨ stb bs bs' vs
structure PreN (vs : List AV) (bs bs' : List Box) (K : Prop) : Prop where
 h : Chk vs bs bs'
 k : K
def gets (s : St) : List Nat -> List AV
 | [] => []
 | t :: ts => s.ev (.t t) :: gets s ts
theorem gets_mem {s : St} {t : Nat} : ∀ {ts : List Nat}, t ∈ ts -> s.ev (.t t) ∈ gets s ts
 | _ :: ts, h => by
  rcases List.mem_cons.1 h with rfl | h
  ·simp [gets]
  ·exact List.mem_cons_of_mem _ (gets_mem h)
def multK (P : Program) (V : List Nat) : List (Nat × ROp) -> St -> (St -> Prop) -> Prop
 | [], s, K => K s
 | (c, r) :: l, s, K => match c with
  | 0 => r.run P true s fun s' => multK P V l s' K
  | 1 => r.run P false s fun s' => multK P V l s' K
  | _ + 2 => r.run P false s fun s' => PreN (gets s V) s.bs s'.bs (multK P V l s' K)
def seqM (P : Program) (rs : List ROp) (cs V : List Nat) : List Nat -> St -> (St -> Prop) -> Prop
 | [], s, K => K s
 | i :: l, s, K => ∃ r, rs[i]? = some r ∧ match cs.getD i 0 with
  | 0 => r.run P true s fun s' => seqM P rs cs V l s' K
  | 1 => r.run P false s fun s' => seqM P rs cs V l s' K
  | _ + 2 => r.run P false s fun s' => PreN (gets s V) s.bs s'.bs (seqM P rs cs V l s' K)
def lookS : List (Nat × ROp) -> List Nat
 | [] => []
 | (0, r) :: l => match r.rx.looks with
  | true => slotsOf r.rx.opds ++ lookS l
  | false => lookS l
 | (_ + 1, _) :: l => lookS l
def allT : List Opd -> Bool
 | [] => true
 | .t _ :: os => allT os
 | _ :: _ => false
def multOps (rs : List ROp) (cs : List Nat) : List Nat -> Option (List (Nat × ROp))
 | [] => some []
 | i :: l => match rs[i]?, multOps rs cs l with
  | some r, some q => some ((cs.getD i 0, r) :: q)
  | _, _ => none
def RX.comes : RX -> Bool
 | .call .. | .callv .. | .eff .. | .load .. => true
 | _ => false
def commE (q e : ROp) : Bool := (q.rx.passive && (!q.rx.looks || allT q.rx.opds)) && (e.rx.comes && (apart q.writes (e.reads ++ e.writes) && apart e.writes q.reads))
def pairM (rs : List ROp) (cs : List Nat) (m i k : Nat) : Bool := m.testBit k || (Nat.beq (cs.getD k 0) 0 && match rs[k]?, rs[i]? with
 | some x, some y => match cs.getD i 0 with
  | 0 => indep x y
  | 1 => false
  | _ + 2 => commE x y
 | _, _ => false)
def rowM (rs : List ROp) (cs : List Nat) (m i : Nat) : List Nat -> Bool
 | [] => true
 | k :: l => pairM rs cs m i k && rowM rs cs m i l
def rowsM (rs : List ROp) (cs ms : List Nat) (seen : List Nat) : List Nat -> Bool
 | [] => true
 | i :: l => rowM rs cs (ms.getD i 0) i seen && rowsM rs cs ms (i :: seen) l
def noneIn (i : Nat) : List Nat -> Bool
 | [] => true
 | k :: l => !(Nat.beq k i) && noneIn i l
def nodupB : List Nat -> Bool
 | [] => true
 | i :: l => noneIn i l && nodupB l
def allBelow (pi : List Nat) : Nat -> Bool
 | 0 => true
 | n + 1 => !(noneIn n pi) && allBelow pi n
def ssaRow (rs : List ROp) (sl : List Nat) : List Nat -> Bool
 | [] => true
 | k :: l => (match rs[k]? with
  | some y => apart y.writes sl
  | none => true) && ssaRow rs sl l
def ssaB (rs : List ROp) : List Nat -> Bool
 | [] => true
 | k :: l => (match rs[k]? with
  | some x => !x.rx.looks || ssaRow rs (slotsOf x.rx.opds) (k :: l)
  | none => true) && ssaB rs l
def Ssa (rs : List ROp) (k m : Nat) : Prop := ∀ x y, rs[k]? = some x -> rs[m]? = some y -> x.rx.looks = true -> ∀ t ∈ slotsOf x.rx.opds, t ∉ y.writes
theorem ssaRow_spec {rs : List ROp} {sl : List Nat} : ∀ {l : List Nat}, ssaRow rs sl l = true -> ∀ m ∈ l, ∀ y, rs[m]? = some y -> ∀ t ∈ sl, t ∉ y.writes
 | k :: l, h, m, hm, y, hy, t, ht => by
  simp only [ssaRow, Bool.and_eq_true] at h; rcases List.mem_cons.1 hm with rfl | hm
  ·have h1 := h.1; rw [hy] at h1; exact fun hw => apart_spec h1 t hw ht
  ·exact ssaRow_spec h.2 m hm y hy t ht
theorem ssaB_spec {rs : List ROp} : ∀ {l : List Nat}, ssaB rs l = true -> l.Pairwise (Ssa rs) ∧ ∀ k ∈ l, Ssa rs k k
 | [], _ => ⟨.nil, fun k hk => by cases hk⟩
 | k :: l, h => by
  simp only [ssaB, Bool.and_eq_true] at h; obtain ⟨h3, h4⟩ := ssaB_spec h.2
  have key : ∀ m ∈ k :: l, Ssa rs k m := fun m hm x y hx hy hl => by
   have h1 := h.1; rw [hx] at h1; simp only [hl, Bool.not_true, Bool.false_or] at h1; exact ssaRow_spec h1 m hm y hy
  exact ⟨List.pairwise_cons.2 ⟨fun m hm => key m (by simp [hm]), h3⟩, fun m hm => by
   rcases List.mem_cons.1 hm with rfl | hm
   ·exact key _ (by simp)
   ·exact h4 m hm⟩
def indepMult (ops : Array Oper) (rs : List ROp) (pi cs : List Nat) : Bool := ssaB rs pi && edgesOk ops.toList 0 && (nodupB pi && (allBelow pi ops.size && rowsM rs cs (masksFrom [] ops.toList) [] pi))
theorem noneIn_spec {i : Nat} : ∀ {l : List Nat}, noneIn i l = true -> i ∉ l
 | [], _, h => by cases h
 | k :: l, h, hm => by
  simp only [noneIn, Bool.and_eq_true, Bool.not_eq_true'] at h; rcases List.mem_cons.1 hm with rfl | hm
  ·rw [beq_self] at h; cases h.1
  ·exact noneIn_spec h.2 hm
theorem noneIn_false {i : Nat} : ∀ {l : List Nat}, noneIn i l = false -> i ∈ l
 | [], h => by cases h
 | k :: l, h => by
  by_cases e : k = i
  ·subst e; simp
  ·simp only [noneIn, beq_ne e, Bool.not_false, Bool.true_and] at h; exact List.mem_cons_of_mem _ (noneIn_false h)
theorem nodupB_spec : ∀ {l : List Nat}, nodupB l = true -> l.Nodup
 | [], _ => .nil
 | i :: l, h => by
  simp only [nodupB, Bool.and_eq_true] at h; exact List.nodup_cons.2 ⟨noneIn_spec h.1, nodupB_spec h.2⟩
theorem allBelow_spec {pi : List Nat} : ∀ {n : Nat}, allBelow pi n = true -> ∀ i, i < n -> i ∈ pi
 | 0, _, i, hi => by omega
 | n + 1, h, i, hi => by
  simp only [allBelow, Bool.and_eq_true, Bool.not_eq_true'] at h
  by_cases e : i = n
  ·subst e; exact noneIn_false h.1
  ·exact allBelow_spec h.2 i (by omega)
theorem rowM_spec {rs : List ROp} {cs : List Nat} {m i : Nat} : ∀ {l : List Nat}, rowM rs cs m i l = true -> ∀ k ∈ l, pairM rs cs m i k = true
 | [], _, k, hk => by cases hk
 | k0 :: l, h, k, hk => by
  simp only [rowM, Bool.and_eq_true] at h; rcases List.mem_cons.1 hk with rfl | hk
  ·exact h.1
  ·exact rowM_spec h.2 k hk
theorem rowsM_spec {rs : List ROp} {cs ms : List Nat} : ∀ {A : List Nat} {seen : List Nat} {i : Nat} {B : List Nat}, rowsM rs cs ms seen (A ++ i :: B) = true -> ∀ k, k ∈ A ∨ k ∈ seen -> pairM rs cs (ms.getD i 0) i k = true
 | [], seen, i, B, h, k, hk => by
  simp only [List.nil_append, rowsM, Bool.and_eq_true] at h; rcases hk with hk | hk
  ·cases hk
  ·exact rowM_spec h.1 k hk
 | a :: A, seen, i, B, h, k, hk => by
  simp only [List.cons_append, rowsM, Bool.and_eq_true] at h; refine rowsM_spec (A := A) h.2 k ?_; rcases hk with hk | hk
  ·rcases List.mem_cons.1 hk with rfl | hk
   ·exact .inr (by simp)
   ·exact .inl hk
  ·exact .inr (by simp [hk])
section
variable {P : Program} {rs : List ROp} {cs V : List Nat} {K : St -> Prop}
theorem multK_mono {K' : St -> Prop} (hk : ∀ x, K x -> K' x) : ∀ {q : List (Nat × ROp)} {s : St}, multK P V q s K -> multK P V q s K'
 | [], _, h => hk _ h
 | (0, _) :: _, _, h => ROp.mono (fun _ hx => multK_mono hk hx) h
 | (1, _) :: _, _, h => ROp.mono (fun _ hx => multK_mono hk hx) h
 | (_ + 2, _) :: _, _, h => ROp.mono (fun _ hx => ⟨hx.h, multK_mono hk hx.k⟩) h
theorem multK_seq : ∀ {pi : List Nat} {q : List (Nat × ROp)} {s : St}, multOps rs cs pi = some q -> multK P V q s K -> seqM P rs cs V pi s K
 | [], q, s, hq, h => by cases hq; exact h
 | i :: l, q, s, hq, h => by
  simp only [multOps] at hq; split at hq
  ·rename_i r q' hr hq'; cases hq; refine ⟨r, hr, ?_⟩; revert h
   cases cs.getD i 0 with
   | zero => exact fun h => ROp.mono (fun s' hs' => multK_seq hq' hs') h
   | succ c =>
    cases c with
    | zero => exact fun h => ROp.mono (fun s' hs' => multK_seq hq' hs') h
    | succ c => exact fun h => ROp.mono (fun s' hs' => ⟨hs'.h, multK_seq hq' hs'.k⟩) h
  ·cases hq
theorem lookS_spec : ∀ {pi : List Nat} {q : List (Nat × ROp)}, multOps rs cs pi = some q -> ∀ k ∈ pi, cs.getD k 0 = 0 -> ∀ x, rs[k]? = some x -> x.rx.looks = true -> ∀ t ∈ slotsOf x.rx.opds, t ∈ lookS q
 | [], q, hq, k, hk => by cases hk
 | i :: l, q, hq, k, hk => by
  simp only [multOps] at hq; split at hq
  ·rename_i r q' hr hq'; cases hq; intro h0 x hx hl t ht
   have sub : t ∈ lookS q' -> t ∈ lookS ((cs.getD i 0, r) :: q') := fun h => by
    cases cs.getD i 0 with
    | zero =>
     simp only [lookS]; split
     ·exact List.mem_append_right _ h
     ·exact h
    | succ c => exact h
   rcases List.mem_cons.1 hk with rfl | hk
   ·rw [hr] at hx; cases hx; rw [h0]; simp only [lookS, hl]; exact List.mem_append_left _ ht
   ·exact sub (lookS_spec hq' k hk h0 x hx hl t ht)
  ·cases hq
theorem multOps_lt : ∀ {pi : List Nat} {q : List (Nat × ROp)}, multOps rs cs pi = some q -> ∀ i ∈ pi, i < rs.length
 | [], q, hq, i, hi => by cases hi
 | k :: l, q, hq, i, hi => by
  simp only [multOps] at hq; split at hq
  ·rename_i r q' hr hq'; rcases List.mem_cons.1 hi with rfl | hi
   ·exact (List.getElem?_eq_some_iff.1 hr).1
   ·exact multOps_lt hq' i hi
  ·cases hq
theorem seqM_det : ∀ {pre post : List Nat} {s : St}, (∀ k ∈ pre, cs.getD k 0 = 0) -> seqM P rs cs V (pre ++ post) s K -> ∃ sm, ExecL P rs pre s sm ∧ seqM P rs cs V post sm K
 | [], post, s, _, h => ⟨s, rfl, h⟩
 | k :: pre, post, s, hn, ⟨r, hr, h⟩ => by
  rw [hn k (by simp)] at h
  obtain ⟨s1, h1, h2⟩ := ROp.ex h; obtain ⟨sm, h3, h4⟩ := seqM_det (fun k' hk' => hn k' (by simp [hk'])) h2
  exact ⟨sm, ⟨s1, ⟨r, hr, h1⟩, h3⟩, h4⟩
theorem seqM_join : ∀ {pre post : List Nat} {s sm : St}, (∀ k ∈ pre, cs.getD k 0 = 0) -> ExecL P rs pre s sm -> seqM P rs cs V post sm K -> seqM P rs cs V (pre ++ post) s K
 | [], post, s, sm, _, h, k => by have h : s = sm := h; subst h; exact k
 | k :: pre, post, s, sm, hn, ⟨s1, ⟨r, hr, h1⟩, h2⟩, hk => by
  refine ⟨r, hr, ?_⟩; rw [hn k (by simp)]
  refine ROp.mono (fun s' e => ?_) h1; subst e; exact seqM_join (fun k' hk' => hn k' (by simp [hk'])) h2 hk
theorem put_put' (e : List (Nat × AV)) (bs : List Box) (lo k : Nat) (v : AV) {d : Option Nat} (hd : d ≠ some k) (r : AV) : (⟨envPut e k v, bs, lo⟩ : St).put d r = ((⟨e, bs, lo⟩ : St).put d r).put (some k) v := by
 cases d with
 | none => rfl
 | some j => exact St.put_comm (⟨e, bs, lo⟩ : St) v r (fun x => hd (by rw [x]))
theorem tbK_put {e : TbE} {vals : List AV} {env : List (Nat × AV)} {bs : List Box} {lo k : Nat} {v : AV} {d : Option Nat} {K : St -> Prop}
  (pp : ∀ (bs : List Box) (r : AV), K ((⟨envPut env k v, bs, lo⟩ : St).put d r) -> K (((⟨env, bs, lo⟩ : St).put d r).put (some k) v)) (h : tbK e vals ⟨envPut env k v, bs, lo⟩ d K) : tbK e vals ⟨env, bs, lo⟩ d fun s' => K (s'.put (some k) v) := by
 cases e with
 | get =>
  obtain ⟨b, x, l, key, h1, h2, h3, h4, h5⟩ := h
  exact ⟨b, x, l, key, h1, h2, h3, fun r hr hkr => pp _ _ (h4 r hr hkr), fun hn => pp _ _ (h5 hn)⟩
 | put =>
  obtain ⟨b, x, l, r, h1, h2, h3, h4⟩ := h
  exact ⟨b, x, l, r, h1, h2, h3, fun x' hx' => h4 x' hx'⟩
 | del =>
  obtain ⟨b, x, l, r, h1, h2, h3, h4⟩ := h
  exact ⟨b, x, l, r, h1, h2, h3, fun x' hx' => pp _ _ (h4 x' hx')⟩
 | clr =>
  obtain ⟨b, x, h1, h2, h3, h4⟩ := h; exact ⟨b, x, h1, h2, h3, fun x' hx' => pp _ _ (h4 x' hx')⟩
theorem tbK_kind {e : TbE} {vals : List AV} {s : St} {d : Option Nat} {K : St -> Prop} (h : tbK e vals s d K) : tbK e vals s d fun s' => K s' ∧ ∃ bs' lo', (∃ r, s' = (⟨s.env, bs', lo'⟩ : St).put d r) ∨ s' = ⟨s.env, bs', lo'⟩ := by
 cases e with
 | get =>
  obtain ⟨b, x, l, key, h1, h2, h3, h4, h5⟩ := h
  exact ⟨b, x, l, key, h1, h2, h3, fun r hr hkr => ⟨h4 r hr hkr, _, _, .inl ⟨_, rfl⟩⟩, fun hn => ⟨h5 hn, _, _, .inl ⟨_, rfl⟩⟩⟩
 | put =>
  obtain ⟨b, x, l, r, h1, h2, h3, h4⟩ := h
  exact ⟨b, x, l, r, h1, h2, h3, fun x' hx' => ⟨h4 x' hx', _, _, .inr rfl⟩⟩
 | del =>
  obtain ⟨b, x, l, r, h1, h2, h3, h4⟩ := h
  exact ⟨b, x, l, r, h1, h2, h3, fun x' hx' => ⟨h4 x' hx', _, _, .inl ⟨_, rfl⟩⟩⟩
 | clr =>
  obtain ⟨b, x, h1, h2, h3, h4⟩ := h; exact ⟨b, x, h1, h2, h3, fun x' hx' => ⟨h4 x' hx', _, _, .inl ⟨_, rfl⟩⟩⟩
theorem effK_put {e : Eff} {vals : List AV} {s : St} {k : Nat} {v : AV} {d : Option Nat} {K : St -> Prop} (hd : d ≠ some k) (h : effK e vals (s.put (some k) v) d K) : effK e vals s d fun s' => K (s'.put (some k) v) := by
 obtain ⟨env, bs, lo⟩ := s
 have pp : ∀ (bs : List Box) (r : AV), K ((⟨envPut env k v, bs, lo⟩ : St).put d r) -> K (((⟨env, bs, lo⟩ : St).put d r).put (some k) v) := fun bs r x => by
  rw [put_put' _ _ _ _ _ hd] at x; exact x
 simp only [St.put] at h; unfold effK at h ⊢; split at h
 ·exact srcK_mono (fun m k' cs' ob h => elsK_mono (fun n ys h => ⟨h.1, fun k' hk' => pp _ _ (h.2 k' hk')⟩) h) h
 ·unfold appZ at h ⊢; split at h
  ·exact srcK_mono (fun m k' cs' ob h => ⟨h.1, fun k' hk' => pp _ _ (h.2 k' hk')⟩) h
  ·exact h
 ·unfold slNK at h ⊢; split at h
  ·exact ⟨h.1, pp _ _ h.2⟩
  ·exact h
 ·exact pp _ _ h
 ·exact pp _ _ h
 ·unfold setMK at h ⊢; split at h
  ·simp only at h ⊢; split at h
   ·exact h
   ·exact h
   ·exact h.elim
  ·exact h
 ·unfold getMK at h ⊢; split at h
  ·simp only at h ⊢; split at h
   ·split at h
    ·exact ⟨h.1, pp _ _ h.2⟩
    ·exact pp _ _ h
   ·split at h
    ·exact ⟨h.1, pp _ _ h.2⟩
    ·exact pp _ _ h
   ·exact h
  ·exact pp _ _ h
  ·exact h
 ·unfold mkB at h ⊢; split at h
  ·exact ⟨h.1, pp _ _ h.2⟩
  ·exact h
 ·unfold entMK at h ⊢; split at h
  ·simp only at h ⊢; split at h
   ·exact ⟨h.1, pp _ _ h.2⟩
   ·exact h
  ·exact h
 ·unfold stoMK at h ⊢; split at h
  ·simp only at h ⊢; split at h
   ·split at h
    ·exact h
    ·exact h
   ·exact h
  ·exact h
 ·exact ⟨h.1, pp _ _ h.2⟩
 ·exact ⟨fun e => pp _ _ (h.1 e), fun e b => pp _ _ (h.2 e b)⟩
 ·obtain ⟨b, cs, l, x, h1, h2, h3, h4, h5, h6, h7, h8, h9, h⟩ := h; exact ⟨b, cs, l, x, h1, h2, h3, h4, h5, h6, h7, h8, h9, h⟩
 ·obtain ⟨b, cs, l, x, r, h1, h2, h3, h4, h5, h6, h7, h8, h9⟩ := h; exact ⟨b, cs, l, x, r, h1, h2, h3, h4, h5, h6, h7, fun y e => pp _ _ (h8 y e), fun e => pp _ _ (h9 e)⟩
 ·exact tbK_put pp h
 ·exact h
theorem loadTK_own {s : St} {t b off z : Nat} {l : List AV} (h : s.at (.bx b off) = some (.sl (.own z) l)) : (((s.put (some t) (.sl .no l)).upd (.bx b off) (.sl .no l)).upd (.sl t) (.sl (.own z) l)) = (⟨s.env, (s.upd (.bx b off) (.sl .no l)).bs, s.lo⟩ : St).put (some t) (.sl (.own z) l) := by
 obtain ⟨env, bs, lo⟩ := s; simp only [St.at] at h
 cases hb : boxCells bs b with
 | none => rw [hb] at h; cases h
 | some cs => simp only [St.upd, St.put, hb, St.setBox, envPut_put]
theorem loadK_mono {agg : Bool} {n : Nat} {cs : Option (List AV)} {K K' : AV -> Prop} (hk : ∀ x, K x -> K' x) (h : loadK agg n cs K) : loadK agg n cs K' := by
 unfold loadK at h ⊢; split at h
 ·split at h
  ·exact req_iff.2 ⟨(req_iff.1 h).1, hk _ (req_iff.1 h).2⟩
  ·split at h <;> first | exact hk _ h | exact h
 ·exact h
def takesIn (agg : Bool) (s : St) (d : Option Nat) (p : AV) : Prop := ∃ t b off z l, agg = false ∧ d = some t ∧ p = .ptr b off ∧ s.at (.bx b off) = some (.sl (.own z) l)
theorem loadTK_plain {agg : Bool} {n : Nat} {s : St} {d : Option Nat} {p : AV} {K : St -> Prop} (h : ¬ takesIn agg s d p) : loadTK agg n s d p K = loadK agg n (s.rd p) fun r => K (s.put d r) := by
 unfold loadTK; split
 ·rename_i t b off; split
  ·rename_i z l hl; exact absurd ⟨t, b, off, z, l, rfl, rfl, rfl, hl⟩ h
  ·rfl
 ·rfl
theorem loadTK_takes {n t b off z : Nat} {l : List AV} {s : St} {K : St -> Prop} (hl : s.at (.bx b off) = some (.sl (.own z) l)) : loadTK false n s (some t) (.ptr b off) K = K ((⟨s.env, (s.upd (.bx b off) (.sl .no l)).bs, s.lo⟩ : St).put (some t) (.sl (.own z) l)) := by
 unfold loadTK; simp only [hl]; rw [loadTK_own hl]
theorem loadTK_put {agg : Bool} {n k : Nat} {v : AV} {d : Option Nat} (hd : d ≠ some k) {s : St} {p : AV} {K : St -> Prop} (h : loadTK agg n (s.put (some k) v) d p K) : loadTK agg n s d p fun s' => K (s'.put (some k) v) := by
 have hat : ∀ b off, (s.put (some k) v).at (.bx b off) = s.at (.bx b off) := fun b off => by rw [St.at_put, if_neg (by simp)]
 by_cases ht : takesIn agg s d p
 ·obtain ⟨t, b, off, z, l, rfl, rfl, rfl, hl⟩ := ht; rw [loadTK_takes ((hat b off).trans hl)] at h; rw [loadTK_takes hl]
  have e : ((⟨(s.put (some k) v).env, ((s.put (some k) v).upd (.bx b off) (.sl .no l)).bs, (s.put (some k) v).lo⟩ : St).put (some t) (.sl (.own z) l)) = ((⟨s.env, (s.upd (.bx b off) (.sl .no l)).bs, s.lo⟩ : St).put (some t) (.sl (.own z) l)).put (some k) v := by
   have hb : ((s.put (some k) v).upd (.bx b off) (.sl .no l)).bs = (s.upd (.bx b off) (.sl .no l)).bs := by
    obtain ⟨env, bs, lo⟩ := s; simp only [St.upd, St.put]; cases boxCells bs b <;> rfl
   rw [hb]; exact St.put_comm (⟨s.env, (s.upd (.bx b off) (.sl .no l)).bs, s.lo⟩ : St) v _ (j := k) (k := t) (fun e => hd (by rw [e]))
  rw [e] at h; exact h
 ·have ht' : ¬ takesIn agg (s.put (some k) v) d p := fun ⟨t, b, off, z, l, e1, e2, e3, e4⟩ => ht ⟨t, b, off, z, l, e1, e2, e3, (hat b off).symm.trans e4⟩; rw [loadTK_plain ht'] at h; rw [loadTK_plain ht]; rw [St.rd_put] at h; refine loadK_mono (fun x hx => ?_) h
  cases d with
  | none => exact hx
  | some j =>
   have := St.put_comm s v x (j := k) (k := j) (fun e => hd (by rw [e]))
   rw [this] at hx; exact hx
theorem comes_frame {rx : RX} (hc : rx.comes = true) {d : Option Nat} {k : Nat} (v : AV) (h1 : k ∉ slotsOf rx.opds) (h2 : d ≠ some k) {s : St} {K : St -> Prop} (h : rx.run P false (s.put (some k) v) d K) : rx.run P false s d fun s' => K (s'.put (some k) v) := by
 have hev : ∀ o ∈ rx.opds, (s.put (some k) v).ev o = s.ev o := fun o ho => St.ev_put s k v fun hk => h1 (mem_slotsOf ho hk)
 have pp : ∀ (bs : List Box) (r : AV), K ((⟨envPut s.env k v, bs, s.lo⟩ : St).put d r) -> K (((⟨s.env, bs, s.lo⟩ : St).put d r).put (some k) v) := fun bs r x => by
  rw [put_put' _ _ _ _ _ h2] at x; exact x
 cases rx <;> simp [RX.comes] at hc
 case call f args =>
  simp only [RX.run] at h ⊢; rw [hev f (by simp [RX.opds]), evs_congr (fun o ho => hev o (by simp [RX.opds, ho]))] at h
  unfold callK at h ⊢; split at h
  ·obtain ⟨Q, h3, h4⟩ := h; exact ⟨Q, h3, fun r bs' hq => pp bs' r (h4 r bs' hq)⟩
  ·obtain ⟨Q, h3, h4⟩ := h; exact ⟨Q, h3, fun r bs' hq => pp bs' r (h4 r bs' hq)⟩
  ·exact h
 case callv f args =>
  simp only [RX.run] at h ⊢; rw [hev f (by simp [RX.opds]), evs_congr (fun o ho => hev o (by simp [RX.opds, ho]))] at h
  refine ⟨h.1, ?_⟩; have h := h.2; unfold callK at h ⊢; split at h
  ·obtain ⟨Q, h3, h4⟩ := h; exact ⟨Q, h3, fun r bs' hq => pp bs' r (h4 r bs' hq)⟩
  ·obtain ⟨Q, h3, h4⟩ := h; exact ⟨Q, h3, fun r bs' hq => pp bs' r (h4 r bs' hq)⟩
  ·exact h
 case load agg n o =>
  simp only [RX.run] at h ⊢; rw [hev o (by simp [RX.opds])] at h
  exact loadTK_put h2 h
 case eff e args =>
  simp only [RX.run] at h ⊢; rw [evs_congr (fun o ho => hev o (by simp [RX.opds, ho]))] at h
  exact effK_put h2 h
theorem boxCells_pre {bs t : List Box} {b : Nat} {cs : List AV} (h : boxCells bs b = some cs) : boxCells (bs ++ t) b = some cs := by
 have hb := boxCells_lt h; simp only [boxCells, List.getElem?_append_left hb]; exact h
theorem rd_pre {s s' : St} {t : List Box} (h : s'.bs = s.bs ++ t) (x : AV) (cs : List AV) (hx : s.rd x = some cs) : s'.rd x = some cs := by
 cases x <;> simp only [St.rd] at hx ⊢ <;> first | exact hx | skip
 all_goals
  split at hx
  ·rename_i cs' hc; rw [h, boxCells_pre hc]; exact hx
  ·cases hx
theorem comes_slots {rx : RX} (hc : rx.comes = true) {d : Option Nat} {s : St} {K : St -> Prop} (h : rx.run P false s d K) : rx.run P false s d fun s' => K s' ∧ ∃ bs' lo, (∃ r, s' = (⟨s.env, bs', lo⟩ : St).put d r) ∨ s' = ⟨s.env, bs', lo⟩ := by
 cases rx <;> simp [RX.comes] at hc
 case call f args =>
  simp only [RX.run] at h ⊢; unfold callK at h ⊢; split at h
  ·obtain ⟨Q, h3, h4⟩ := h; exact ⟨Q, h3, fun r bs' hq => ⟨h4 r bs' hq, _, _, .inl ⟨_, rfl⟩⟩⟩
  ·obtain ⟨Q, h3, h4⟩ := h; exact ⟨Q, h3, fun r bs' hq => ⟨h4 r bs' hq, _, _, .inl ⟨_, rfl⟩⟩⟩
  ·exact h
 case callv f args =>
  simp only [RX.run] at h ⊢; refine ⟨h.1, ?_⟩; have h := h.2; unfold callK at h ⊢; split at h
  ·obtain ⟨Q, h3, h4⟩ := h; exact ⟨Q, h3, fun r bs' hq => ⟨h4 r bs' hq, _, _, .inl ⟨_, rfl⟩⟩⟩
  ·obtain ⟨Q, h3, h4⟩ := h; exact ⟨Q, h3, fun r bs' hq => ⟨h4 r bs' hq, _, _, .inl ⟨_, rfl⟩⟩⟩
  ·exact h
 case load agg n o =>
  simp only [RX.run] at h ⊢
  by_cases ht : takesIn agg s d (s.ev o)
  ·obtain ⟨t, b, off, z, l, rfl, rfl, hp, hl⟩ := ht; rw [hp, loadTK_takes hl] at h ⊢; exact ⟨h, _, _, .inl ⟨_, rfl⟩⟩
  ·rw [loadTK_plain ht] at h ⊢; exact loadK_mono (fun x hx => ⟨hx, _, _, .inl ⟨x, rfl⟩⟩) h
 case eff e args =>
  simp only [RX.run] at h ⊢; obtain ⟨env, bs, lo⟩ := s; unfold effK at h ⊢; split at h
  ·exact srcK_mono (fun m k' cs' ob h => elsK_mono (fun n ys h => ⟨h.1, fun k' hk' => ⟨h.2 k' hk', _, _, .inl ⟨_, rfl⟩⟩⟩) h) h
  ·unfold appZ at h ⊢; split at h
   ·exact srcK_mono (fun m k' cs' ob h => ⟨h.1, fun k' hk' => ⟨h.2 k' hk', _, _, .inl ⟨_, rfl⟩⟩⟩) h
   ·exact h
  ·unfold slNK at h ⊢; split at h
   ·exact ⟨h.1, h.2, _, _, .inl ⟨_, rfl⟩⟩
   ·exact h
  ·exact ⟨h, _, _, .inl ⟨_, rfl⟩⟩
  ·exact ⟨h, _, _, .inl ⟨_, rfl⟩⟩
  ·unfold setMK at h ⊢; split at h
   ·simp only at h ⊢; split at h
    ·exact ⟨h.1, h.2, _, _, .inr rfl⟩
    ·exact ⟨h.1, h.2, _, _, .inr rfl⟩
    ·exact h.elim
   ·exact h
  ·unfold getMK at h ⊢; split at h
   ·simp only at h ⊢; split at h
    ·split at h
     ·exact ⟨h.1, h.2, _, _, .inl ⟨_, rfl⟩⟩
     ·exact ⟨h, _, _, .inl ⟨_, rfl⟩⟩
    ·split at h
     ·exact ⟨h.1, h.2, _, _, .inl ⟨_, rfl⟩⟩
     ·exact ⟨h, _, _, .inl ⟨_, rfl⟩⟩
    ·exact h
   ·exact ⟨h, _, _, .inl ⟨_, rfl⟩⟩
   ·exact h
  ·unfold mkB at h ⊢; split at h
   ·exact ⟨h.1, h.2, _, _, .inl ⟨_, rfl⟩⟩
   ·exact h
  ·unfold entMK at h ⊢; split at h
   ·simp only at h ⊢; split at h
    ·exact ⟨h.1, h.2, _, _, .inl ⟨_, rfl⟩⟩
    ·exact h
   ·exact h
  ·unfold stoMK at h ⊢; split at h
   ·simp only at h ⊢; split at h
    ·split at h
     ·exact ⟨h.1, h.2, _, _, .inr rfl⟩
     ·exact h
    ·exact h
   ·exact h
  ·exact ⟨h.1, h.2, _, _, .inl ⟨_, rfl⟩⟩
  ·exact ⟨fun e => ⟨h.1 e, _, _, .inl ⟨_, rfl⟩⟩, fun e b => ⟨h.2 e b, _, _, .inl ⟨_, rfl⟩⟩⟩
  ·obtain ⟨b, cs, l, x, h1, h2, h3, h4, h5, h6, h7, h8, h9, h⟩ := h; exact ⟨b, cs, l, x, h1, h2, h3, h4, h5, h6, h7, h8, h9, h, _, _, .inr rfl⟩
  ·obtain ⟨b, cs, l, x, r, h1, h2, h3, h4, h5, h6, h7, h8, h9⟩ := h; exact ⟨b, cs, l, x, r, h1, h2, h3, h4, h5, h6, h7, fun y e => ⟨h8 y e, _, _, .inl ⟨_, rfl⟩⟩, fun e => ⟨h9 e, _, _, .inl ⟨_, rfl⟩⟩⟩
  ·exact tbK_kind h
  ·exact h
theorem mem_reads {r : ROp} {o : Opd} {k : Nat} (h : o ∈ r.rx.opds) (hk : k ∈ o.slots) : k ∈ r.reads := List.mem_append_right _ (mem_slotsOf h hk)
theorem get_after {s : St} {bs' : List Box} {lo : Nat} {d : Option Nat} {s' : St} (h : (∃ r, s' = (⟨s.env, bs', lo⟩ : St).put d r) ∨ s' = ⟨s.env, bs', lo⟩) {t : Nat} (ht : d ≠ some t) : s'.get t = s.get t := by
 rcases h with ⟨r, rfl⟩ | rfl
 ·cases d with
  | none => rfl
  | some d => exact St.get_put _ _ _ (fun e => ht (by rw [e]))
 ·rfl
theorem stb_get {bs bs' : List Box} {v : AV} : ∀ {vs : List AV}, stb bs bs' vs -> v ∈ vs -> stb bs bs' [v]
 | w :: vs, h, hv => by
  have h2 : stb bs bs' [w] ∧ stb bs bs' vs := by cases w <;> first | exact ⟨trivial, h⟩ | exact ⟨⟨h.1, trivial⟩, h.2⟩
  rcases List.mem_cons.1 hv with rfl | hv
  ·exact h2.1
  ·exact stb_get h2.2 hv
theorem stb_rd {s s' : St} {v : AV} (h : stb s.bs s'.bs [v]) (cs : List AV) (hx : s.rd v = some cs) : s'.rd v = some cs := by
 have key : ∀ b off, cellsD s'.bs b = cellsD s.bs b -> (match boxCells s.bs b with | some cs => some ((cs.drop off).map AV.deown) | none => none) = some cs -> (match boxCells s'.bs b with | some cs => some ((cs.drop off).map AV.deown) | none => none) = some cs := fun b off e hx => by
  unfold cellsD at e
  cases h1 : boxCells s.bs b with
  | none => rw [h1] at hx; cases hx
  | some ds =>
   rw [h1] at hx e
   cases h2 : boxCells s'.bs b with
   | none => rw [h2] at e; cases e
   | some ds' =>
    rw [h2] at e; simp only [Option.some.injEq] at e hx ⊢; rw [← hx, List.map_drop, List.map_drop, e]
 cases v <;> simp only [St.rd] at hx ⊢ <;> first | exact hx | exact key _ _ h.1 hx
theorem chk_rd {s s' : St} {vs : List AV} {v : AV} (h : Chk vs s.bs s'.bs) (hv : v ∈ vs) (cs : List AV) (hx : s.rd v = some cs) : s'.rd v = some cs := by
 rcases h with ⟨t, ht⟩ | h
 ·exact rd_pre ht v cs hx
 ·exact stb_rd (stb_get h hv) cs hx
theorem allT_get : ∀ {os : List Opd} {o : Opd}, allT os = true -> o ∈ os -> ∃ k, o = .t k ∧ k ∈ slotsOf os
 | .t j :: os, o, h, ho => by
  rcases List.mem_cons.1 ho with rfl | ho
  ·exact ⟨j, rfl, by simp [slotsOf, Opd.slots]⟩
  ·obtain ⟨k, e, hk⟩ := allT_get (os := os) h ho
   exact ⟨k, e, by simp only [slotsOf, List.mem_append]; exact .inr hk⟩
 | .c x :: os, o, h, ho => by simp [allT] at h
theorem commE_step {q e : ROp} (hc : commE q e = true) {s s1 : St} (hq : q.run P true s fun x => x = s1) {K : St -> Prop} {vs : List AV} (hvs : q.rx.looks = true -> ∀ t ∈ slotsOf q.rx.opds, s.ev (.t t) ∈ vs) (he : e.run P false s1 fun s' => Chk vs s1.bs s'.bs ∧ K s') : e.run P false s fun s' => Chk vs s.bs s'.bs ∧ q.run P true s' K := by
 simp only [commE, Bool.and_eq_true] at hc; obtain ⟨⟨hqp, hqt⟩, hec, ha1, ha2⟩ := hc
 have hqw : ∀ k, q.dst = some k -> k ∉ e.reads ∧ k ∉ e.writes := fun k hk => by
  have := apart_spec ha1 k (by simp [ROp.writes, hk])
  simp only [List.mem_append, not_or] at this; exact this
 have hew : ∀ k, e.dst = some k -> k ∉ q.reads := fun k hk => apart_spec ha2 k (by simp [ROp.writes, hk])
 -- what q does: a value into its slot, the boxes as they are
 have hrun : ∃ v, s1 = s.put q.dst v ∧ ∀ s' : St, (∀ o ∈ q.rx.opds, s.ev o = s'.ev o) -> (∀ g w, q.guard = some (g, w) -> s'.get g = s.get g) -> (q.rx.looks = true -> ∀ o ∈ q.rx.opds, ∀ cs, s.rd (s.ev o) = some cs -> s'.rd (s.ev o) = some cs) -> ∀ K : St -> Prop, K (s'.put q.dst v) -> q.run P true s' K := by
  unfold ROp.run at hq; split at hq
  ·rename_i hgq; obtain ⟨v, h1, h2⟩ := qK_ex ((run_passive hqp).1 hq); refine ⟨v, h2.symm, fun s' h3 _ h5 K hK => ?_⟩; unfold ROp.run; rw [hgq]; refine (run_passive hqp).2 (qK_congr h3 (fun hl o ho _ cs e => h5 hl o ho cs e) (qK_mono (fun y hy => ?_) h1)); rw [hy]; exact hK
  ·rename_i g want hgq; split at hq
   ·rename_i b hb
    by_cases hbw : b = want
    ·obtain ⟨v, h1, h2⟩ := qK_ex ((run_passive hqp).1 (hq.1 hbw)); refine ⟨v, h2.symm, fun s' h3 h4 h5 K hK => ?_⟩; unfold ROp.run; rw [hgq]
     have hb' : gv want (s'.ev (.t g)) = some b := by
      have := h4 g want hgq; simp only [St.ev, this] at hb ⊢; exact hb
     simp only [hb']; refine ⟨fun _ => (run_passive hqp).2 (qK_congr h3 (fun hl o ho _ cs e => h5 hl o ho cs e) (qK_mono (fun y hy => ?_) h1)), fun e => absurd hbw e⟩; rw [hy]; exact hK
    ·refine ⟨.tup [], (hq.2 hbw).symm, fun s' h3 h4 h5 K hK => ?_⟩; unfold ROp.run; rw [hgq]
     have hb' : gv want (s'.ev (.t g)) = some b := by
      have := h4 g want hgq; simp only [St.ev, this] at hb ⊢; exact hb
     simp only [hb']; exact ⟨fun e => absurd e hbw, fun _ => hK⟩
   ·exact hq.elim
 obtain ⟨v, rfl, hrun⟩ := hrun
 have hsb : (s.put q.dst v).bs = s.bs := by cases q.dst <;> rfl
 -- e, ahead of q
 have hgo : (e.rx.run P false (s.put q.dst v) e.dst fun s' => Chk vs s.bs s'.bs ∧ K s') -> e.rx.run P false s e.dst fun s' => Chk vs s.bs s'.bs ∧ q.run P true s' K := fun he => by
  have he2 : e.rx.run P false s e.dst fun s' => Chk vs s.bs s'.bs ∧ K (s'.put q.dst v) := by
   cases hqd : q.dst with
   | none => rw [hqd] at he; exact he
   | some k =>
    rw [hqd] at he; obtain ⟨h1, h2⟩ := hqw k hqd; exact comes_frame hec v (fun hk => h1 (List.mem_append_right _ hk)) (fun e' => h2 (by simp [ROp.writes, e'])) he
  refine rx_mono (fun s' ⟨⟨ht, hK⟩, bs', lo, hs'⟩ => ⟨ht, ?_⟩) (comes_slots hec he2)
  refine hrun s' (fun o ho => ?_) (fun g w hgq => ?_) (fun hl o ho cs hx => chk_rd ht (by
   simp only [hl, Bool.not_true, Bool.false_or] at hqt; obtain ⟨k, rfl, hk⟩ := allT_get hqt ho; exact hvs hl k hk) cs hx) K hK
  ·cases o with
   | c x => rfl
   | t j =>
    simp only [St.ev]; rw [get_after hs' (fun e' => hew j e' (mem_reads ho (by simp [Opd.slots])))]
  ·refine get_after hs' fun e' => hew g e' ?_; simp [ROp.reads, hgq]
 unfold ROp.run at he ⊢
 cases hg : e.guard with
 | none =>
  rw [hg] at he; simp only at he ⊢; rw [hsb] at he
  exact hgo he
 | some gw =>
  obtain ⟨g, want⟩ := gw; rw [hg] at he; simp only at he ⊢
  have hgv : (s.put q.dst v).ev (.t g) = s.ev (.t g) := by
   cases hqd : q.dst with
   | none => rfl
   | some k =>
    refine St.ev_put s k v fun hk => ?_; simp only [Opd.slots, List.mem_singleton] at hk; exact (hqw k hqd).1 (by simp [ROp.reads, hg, ← hk])
  rw [hgv, hsb] at he
  cases hb : gv want (s.ev (.t g)) with
  | none => rw [hb] at he; exact he.elim
  | some b =>
   rw [hb] at he; simp only at he ⊢; refine ⟨fun e1 => hgo (he.1 e1), fun e1 => ?_⟩; obtain ⟨_, c2⟩ := he.2 e1; have hbs : (s.put e.dst (.tup [])).bs = s.bs := by cases e.dst <;> rfl
   have hget : ∀ t, e.dst ≠ some t -> (s.put e.dst (.tup [])).get t = s.get t := fun t ht => get_after (bs' := s.bs) (lo := s.lo) (.inl ⟨.tup [], rfl⟩) ht; refine ⟨by rw [hbs]; exact .inl ⟨[], by rw [List.append_nil]⟩, hrun _ (fun o ho => ?_) (fun g' w hgq => ?_) (fun _ o ho cs hx => ?_) K ?_⟩
   ·cases o with
    | c x => rfl
    | t j =>
     simp only [St.ev]; rw [hget j fun e' => hew j e' (mem_reads ho (by simp [Opd.slots]))]
   ·exact hget g' fun e' => hew g' e' (by simp [ROp.reads, hgq])
   ·have : ∀ x, (s.put e.dst (.tup [])).rd x = s.rd x := fun x => by cases e.dst <;> rfl
    rw [this]; exact hx
   ·cases hqd : q.dst with
    | none => rw [hqd] at c2; exact c2
    | some k =>
     rw [hqd] at c2
     cases hed : e.dst with
     | none => rw [hed] at c2; exact c2
     | some d =>
      rw [hed] at c2; rw [St.put_comm s _ _ (fun e' => (hqw k hqd).2 (by simp [ROp.writes, hed, e']))]
      exact c2
def ExecV (P : Program) (rs : List ROp) (vs : List AV) : List Nat -> St -> St -> Prop
 | [], s, s' => s = s'
 | k :: l, s, s' => (∀ x, rs[k]? = some x -> x.rx.looks = true -> ∀ t ∈ slotsOf x.rx.opds, s.ev (.t t) ∈ vs) ∧ ∃ s1, AOp P rs k s s1 ∧ ExecV P rs vs l s1 s'
theorem exec_keep : ∀ {l : List Nat} {s sm : St}, ExecL P rs l s sm -> ∀ t, (∀ m ∈ l, ∀ y, rs[m]? = some y -> t ∉ y.writes) -> sm.get t = s.get t
 | [], s, sm, h, t, _ => by have h : s = sm := h; rw [h]
 | k :: l, s, sm, ⟨s1, ⟨x, hx, h1⟩, h2⟩, t, ht => by
  rw [exec_keep h2 t (fun m hm => ht m (by simp [hm]))]
  exact ROp.mod h1 (ht k (by simp) x hx)
theorem execV_of {V : List Nat} : ∀ {l : List Nat} {s sm : St}, ExecL P rs l s sm -> l.Pairwise (Ssa rs) -> (∀ k ∈ l, Ssa rs k k) -> (∀ k ∈ l, ∀ x, rs[k]? = some x -> x.rx.looks = true -> ∀ t ∈ slotsOf x.rx.opds, t ∈ V) -> ExecV P rs (gets sm V) l s sm
 | [], s, sm, h, _, _, _ => h
 | k :: l, s, sm, ⟨s1, hk, h2⟩, hp, hself, hV => by
  obtain ⟨p1, p2⟩ := List.pairwise_cons.1 hp; refine ⟨fun x hx hl t ht => ?_, s1, hk, execV_of h2 p2 (fun m hm => hself m (by simp [hm])) (fun m hm => hV m (by simp [hm]))⟩
  have e : sm.get t = s.get t := exec_keep (l := k :: l) ⟨s1, hk, h2⟩ t fun m hm y hy => by
   rcases List.mem_cons.1 hm with rfl | hm
   ·exact hself _ (by simp) x y hx hy hl t ht
   ·exact p1 m hm x y hx hy hl t ht
  have e2 : sm.ev (.t t) = s.ev (.t t) := ev_get fun k hk => by
   simp only [Opd.slots, List.mem_singleton] at hk; rw [hk]; exact e
  rw [← e2]; exact gets_mem (hV k (by simp) x hx hl t ht)
theorem effFront {i : Nat} {e : ROp} {vs : List AV} : ∀ {pre : List Nat} {s sm : St} {K : St -> Prop}, ExecV P rs vs pre s sm -> (∀ k ∈ pre, ∀ x, rs[k]? = some x -> commE x e = true) -> (e.run P false sm fun s' => Chk vs sm.bs s'.bs ∧ K s') ->
  e.run P false s fun s1 => Chk vs s.bs s1.bs ∧ ∃ s2, ExecL P rs pre s1 s2 ∧ K s2
 | [], s, sm, K, h, _, he => by
  have h : s = sm := h; subst h
  exact ROp.mono (fun s' hs' => ⟨hs'.1, s', rfl, hs'.2⟩) he
 | k :: pre, s, sm, K, ⟨hv, s1, ⟨x, hx, h1⟩, h2⟩, hc, he => by
  have ih := effFront (i := i) h2 (fun k' hk' => hc k' (by simp [hk'])) he
  have := commE_step (hc k (by simp) x hx) h1 (hv x hx) ih
  refine ROp.mono (fun s' ⟨hp, hr⟩ => ⟨hp, ?_⟩) this; obtain ⟨s3, h3, s4, h4, h5⟩ := ROp.ex hr; exact ⟨s4, ⟨s3, ⟨x, hx, h3⟩, h4⟩, h5⟩
end
theorem split_filter (p : Nat -> Bool) (i : Nat) {A B : List Nat} (hn : (A ++ i :: B).Nodup) (hp : p i = true) : (A ++ i :: B).filter p = A.filter p ++ i :: B.filter p ∧ (A ++ i :: B).filter (fun k => p k && !(k == i)) = A.filter p ++ B.filter p := by
 rw [List.nodup_append] at hn; obtain ⟨_, hB, hd⟩ := hn; have hB := List.nodup_cons.1 hB; refine ⟨by rw [List.filter_append, List.filter_cons_of_pos hp], ?_⟩
 rw [List.filter_append, List.filter_cons_of_neg (by simp)]
 congr 1
 ·refine List.filter_congr fun k hk => ?_; have hne : (k == i) = false := by simpa using hd k hk i (by simp)
  simp [hne]
 ·refine List.filter_congr fun k hk => ?_
  have hne : (k == i) = false := by
   simp only [beq_eq_false_iff_ne, ne_eq]; exact fun e => hB.1 (e ▸ hk)
  simp [hne]
section
variable {P : Program} {nt : Nat} {fl : Bool} {ops : Array Oper} {rs : List ROp} {cs pi : List Nat} {E : Entry} {rd : Option Nat} {n : Nat}
end
end Go.AM
