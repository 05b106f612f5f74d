/-
  Texts of this claim joined (wip/gen/bundle.py), those declarations only that are needed: AmW AmF AmG AmH AmJ AmK. By an AI agent.
-/
import Derived.Test.YtcjfkbdbcgmomaaGreatDoorBan
set_option linter.unusedSimpArgs false
set_option linter.unusedVariables false
namespace Go.AM
open Go.CK Go.RowKit
inductive RC where
 | skip
 | reg (dr : Bool) (keep : List Nat) (ops : List ROp)
 | solo (p : Nat) (keep : List Nat) (ops : List ROp)
 | mult (keep : List Nat) (ops : List (Nat × ROp))
 | both (keep : List Nat) (qa q1 q2 : List (Nat × ROp))
 | seq (a b : RC)
 | cond (c : Opd) (a b : RC)
 | block (id : Nat) (c : RC)
 | loop (c : RC)
 | range (g : Opd) (ps : List Nat) (a b : RC)
 | exit (id : Nat)
 | ret
deriving Inhabited
def mem (k : Nat) : List Nat -> Bool
 | [] => false
 | x :: xs => match Nat.beq x k with
  | true => true
  | false => mem k xs
def St.keep (s : St) (ks : List Nat) : St := ⟨envKeep (fun k => mem k ks) s.env, s.bs, s.lo⟩
theorem Weak.keep (s : St) (ks : List Nat) : Weak s (s.keep ks) := fun E G a w hs => by
 have hat : ∀ p x, (s.keep ks).at p = some x -> s.at p = some x := fun p x hp => by
  cases p with
  | sl t => exact (envGet_keep _ _ _ _ hp).1
  | bx b j => exact hp
 exact ⟨G, hs.fr, hs.ok, hs.nt, fun p x hp => hs.val p x (hat p x hp), fun b j x hp => hs.one b j x (hat _ x hp), hs.box, hs.bmem, hs.inj, fun p z l hp => hs.own p z l (hat p _ hp), hs.clinj, hs.clbox, hs.cllt, hs.lo, hs.len, hs.sig, hs.sp⟩
def roundW (a b : St -> (AX -> St -> Prop) -> Prop) (x : LB) (env : List (Nat × AV)) (n : Nat) (ps : List Nat) (y : List AV) (bs : List Box) (R : AV -> List Box -> Prop) : Prop :=
 a ⟨putAll env ps y, bs, bs.length⟩ fun e s1 => match e with
  | .normal => boxLoop s1.bs n = some x ∧ b ⟨s1.env, s1.bs.set n .dead, s1.lo⟩ fun e s2 => ∃ s3, Weak s2 s3 ∧ roundQ x n R e s3
  | _ => False
def RC.wp (P : Program) : RC -> St -> (AX -> St -> Prop) -> Prop
 | .skip, s, Q => Q .normal s
 | .reg dr keep ops, s, Q => opsK P dr ops s fun s' => Q .normal (s'.keep keep)
 | .solo p keep ops, s, Q => soloK P p 0 ops s fun s' => Q .normal (s'.keep keep)
 | .mult keep ops, s, Q => multK P (lookS ops) ops s fun s' => Q .normal (s'.keep keep)
 | .both keep qa q1 q2, s, Q => multK P (lookB qa q1 q2) qa s fun sA => multK P (lookB qa q1 q2) q1 sA (fun s' => Q .normal (s'.keep keep)) ∧ multK P (lookB qa q1 q2) q2 sA (fun s' => Q .normal (s'.keep keep))
 | .seq a b, s, Q => a.wp P s (thenQ (fun s' => b.wp P s' Q) Q)
 | .cond c a b, s, Q => match s.ev c with
  | .bool t => (t = true -> a.wp P s Q) ∧ (t = false -> b.wp P s Q)
  | _ => False
 | .block id c, s, Q => c.wp P s (blockQ id Q)
 | .loop c, s, Q => ∃ (I : Nat -> St -> Prop) (m : Nat) (s0 : St), Weak s s0 ∧ I m s0 ∧ ∀ m s, I m s -> c.wp P s (thenQ (fun s' => ∃ m' s'', m' < m ∧ Weak s' s'' ∧ I m' s'') Q)
 | .range g ps a b, s, Q => ∃ s0, Weak s s0 ∧ match s0.ev g with
  | .fn (.func gf) [] lb => hasBody P gf = true ∧ ∀ x : LB, (∀ y bs R, boxLoop bs s0.bs.length = some x -> y.length = ps.length -> roundW (fun s Q => a.wp P s Q) (fun s Q => b.wp P s Q) x (deownEnv s0.env) s0.bs.length ps y bs R -> SemY P s0.bs.length y bs R) ->
    ∃ QQ, Sem P gf ((.yl s0.bs.length :: lb).map AV.norm) (s0.bs ++ [.loop x]) QQ ∧ ∀ r bs', QQ r bs' -> afterQ x s0 bs' Q
  | _ => False
 | .exit id, s, Q => Q (.exit id) s
 | .ret, s, Q => Q .ret s
def keepOf (id : Nat) : List (Nat × List Nat) -> List Nat
 | [] => []
 | (i, l) :: r => match Nat.beq i id with
  | true => l
  | false => keepOf id r
def soloOf (id : Nat) : List (Nat × Nat) -> Option Nat
 | [] => none
 | (i, p) :: r => match Nat.beq i id with
  | true => some p
  | false => soloOf id r
def ownDst (o : Oper) : List Nat := match o.op with
 | .call { callee := .builtin .append, .. } | .call { callee := .value _, .. } | .makeSlice .. => o.dst.toList
 | _ => []
def ownSrc (o : Oper) : List Nat := match o.op with
 | .call { callee := .builtin .append, args := ⟨.tmp t :: _⟩, .. } => [t]
 | _ => []
def takes (ops : Array Oper) (d t : Nat) : Bool := ops.toList.any (fun o => (ownDst o).contains t) || ops.toList.any fun o => (ownSrc o).contains d
def hk (keeps : List (Nat × List Nat)) (tk : Nat -> Nat -> Bool) (d t : Nat) : Bool := match Nat.beq d t with
 | true => (keepOf 1000000 keeps).contains d
 | false => tk d t
def deadC : RC := .cond (.c .top) .skip .skip
def cCode (P : Program) (nt : Nat) (keeps : List (Nat × List Nat)) (solo : List (Nat × Nat)) (fl : Bool) : Code -> Option RC
  | .skip => some .skip
  | .label _ => some .skip
  | .region id ops dr => match (keepOf 1000001 keeps).contains id with
   | true => some deadC
   | false => match dr with
    | false => match cOps P nt (hk keeps fun _ _ => false) ops ops.toList with
      | some rs => some (.reg false (keepOf id keeps) rs)
      | none => none
    | true => match keepOf (4000000 + id) keeps with
     | x :: y :: A => match cOps P nt (hk keeps (takes ops)) ops ops.toList with
      | some rs => match bothOk ops rs (keepOf (3000000 + id) keeps) A x y (keepOf (5000000 + id) keeps) (keepOf (6000000 + id) keeps), multOps rs (keepOf (3000000 + id) keeps) A, multOps rs (keepOf (3000000 + id) keeps) (x :: keepOf (5000000 + id) keeps), multOps rs (keepOf (3000000 + id) keeps) (y :: keepOf (6000000 + id) keeps) with
        | true, some qa, some q1, some q2 => some (.both (keepOf id keeps) qa q1 q2)
        | _, _, _, _ => none
      | none => none
     | _ => match keepOf (2000000 + id) keeps with
     | i0 :: pi => match cOps P nt (hk keeps (takes ops)) ops ops.toList with
      | some rs => match indepMult ops rs (i0 :: pi) (keepOf (3000000 + id) keeps), multOps rs (keepOf (3000000 + id) keeps) (i0 :: pi) with
        | true, some q => some (.mult (keepOf id keeps) q)
        | _, _ => none
      | none => none
     | [] =>
      match soloOf id solo with
      | some p => match cOps P nt (hk keeps (takes ops)) ops ops.toList with
       | some rs => if indepSolo ops rs p then some (.solo p (keepOf id keeps) rs) else none
       | none => none
      | none => match cOps P nt (hk keeps fun _ _ => true) ops ops.toList with
       | some rs => if indepAll ops rs then some (.reg true (keepOf id keeps) rs) else match cOps P nt (hk keeps (takes ops)) ops ops.toList with
         | some rs => if indepAll ops rs then some (.reg true (keepOf id keeps) rs) else none
         | none => none
       | none => none
  | .seq a b => match cCode P nt keeps solo fl a, cCode P nt keeps solo fl b with
    | some a, some b => some (.seq a b)
    | _, _ => none
  | .cond c a b => match opd c, cCode P nt keeps solo fl a, cCode P nt keeps solo fl b with
    | some c, some a, some b => some (.cond c a b)
    | _, _, _ => none
  | .block id c => match cCode P nt keeps solo fl c with
    | some c => some (.block id c)
    | none => none
  | .loop c => match cCode P nt keeps solo fl c with
    | some c => some (.loop c)
    | none => none
  | .rangeFunc g ps a b => match fl with
    | true => match opd g, cCode P nt keeps solo false a, cCode P nt keeps solo false b with
      | some g, some a, some b => if ps.toList.all (fun p => Nat.blt p nt) then some (.range g ps.toList a b) else none
      | _, _, _ => none
    | false => none
  | .scope c => cCode P nt keeps solo fl c
  | .exit id => some (.exit id)
  | .ret => some .ret
  | _ => none
theorem thenQ_mono {K K' : St -> Prop} {Q : AX -> St -> Prop} (h : ∀ s, K s -> K' s) : ∀ x s, thenQ K Q x s -> thenQ K' Q x s := fun x s hx => by
 cases x with
 | normal => exact h s hx
 | exit id => exact hx
 | ret => exact hx
theorem cCode_sound {P : Program} {nt : Nat} {keeps : List (Nat × List Nat)} {solo : List (Nat × Nat)} (hm : P.follows .mixedOrders = true) : ∀ {c : Code} {fl : Bool} {r : RC}, cCode P nt keeps solo fl c = some r -> ∀ {s : St} {Q : AX -> St -> Prop}, r.wp P s Q -> WP P nt fl c s Q := by
 intro c
 induction c with
 | skip => intro fl r hc s Q h; cases hc; exact WP.skip h
 | label l => intro fl r hc s Q h; cases hc; exact WP.label h
 | region id ops dr =>
  intro fl r hc s Q h; simp only [cCode] at hc; split at hc
  ·cases hc; exact h.elim
  cases dr with
  | false =>
   simp only at hc; split at hc
   ·rename_i rs hrs; cases hc; exact WP.weakQ (WP.region hrs (opsK_mono (fun s' hs' => ⟨_, Weak.keep s' _, hs'⟩) h))
   ·cases hc
  | true =>
   simp only at hc; split at hc
   ·split at hc
    ·rename_i rs hrs; split at hc
     ·rename_i qa q1 q2 hi ha h1 h2; cases hc; exact WP.weakQ (WP.region_both hm hrs hi ha h1 h2 (multK_mono (fun sA hs' => ⟨multK_mono (fun s' hs' => ⟨_, Weak.keep s' _, hs'⟩) hs'.1, multK_mono (fun s' hs' => ⟨_, Weak.keep s' _, hs'⟩) hs'.2⟩) h))
     ·cases hc
    ·cases hc
   split at hc
   ·split at hc
    ·rename_i rs hrs; split at hc
     ·rename_i q hi hq; cases hc; exact WP.weakQ (WP.region_mult hm hrs hi hq (multK_mono (fun s' hs' => ⟨_, Weak.keep s' _, hs'⟩) h))
     ·cases hc
    ·cases hc
   split at hc
   ·split at hc
    ·rename_i rs hrs; split at hc
     ·rename_i hi; cases hc; exact WP.weakQ (WP.region_solo hm hrs hi (soloK_mono (fun s' hs' => ⟨_, Weak.keep s' _, hs'⟩) h))
     ·cases hc
    ·cases hc
   ·split at hc
    ·rename_i rs hrs; split at hc
     ·rename_i hi; cases hc; exact WP.weakQ (WP.region_any hm hrs hi (opsK_mono (fun s' hs' => ⟨_, Weak.keep s' _, hs'⟩) h))
     ·split at hc
      ·rename_i rs2 hrs2; split at hc
       ·rename_i hi; cases hc; exact WP.weakQ (WP.region_any hm hrs2 hi (opsK_mono (fun s' hs' => ⟨_, Weak.keep s' _, hs'⟩) h))
       ·cases hc
      ·cases hc
    ·cases hc
 | seq a b iha ihb =>
  intro fl r hc s Q h; simp only [cCode] at hc; split at hc
  ·rename_i ra rb ha hb; cases hc; exact WP.seq ((iha ha h).mono fun x s' q => thenQ_mono (fun s2 h2 => ihb hb h2) x s' q)
  ·cases hc
 | cond c a b iha ihb =>
  intro fl r hc s Q h; simp only [cCode] at hc; split at hc
  ·rename_i rc ra rb hcc ha hb; cases hc; refine WP.cond hcc ?_; simp only [RC.wp] at h; split at h
   ·rename_i t ht; rw [ht]; exact ⟨fun e => iha ha (h.1 e), fun e => ihb hb (h.2 e)⟩
   ·exact h.elim
  ·cases hc
 | block id c ih =>
  intro fl r hc s Q h; simp only [cCode] at hc; split at hc
  ·rename_i rc hcc; cases hc; exact WP.block (ih hcc h)
  ·cases hc
 | loop c ih =>
  intro fl r hc s Q h; simp only [cCode] at hc; split at hc
  ·rename_i rc hcc; cases hc; obtain ⟨I, m, s0, hw0, h0, hr⟩ := h; refine WP.loop (fun m s => ∃ s', Weak s s' ∧ I m s') ⟨s0, hw0, h0⟩ fun m s ⟨s', hw, hI⟩ => ?_; refine WP.weak hw ((ih hcc (hr m s' hI)).mono fun x s2 q => thenQ_mono (fun s3 ⟨m', s'', h1, h2, h3⟩ => ⟨m', h1, s'', h2, h3⟩) x s2 q)
  ·cases hc
 | exit id => intro fl r hc s Q h; cases hc; exact WP.exit h
 | ret => intro fl r hc s Q h; cases hc; exact WP.ret h
 | rangeFunc g ps a b iha ihb =>
  intro fl r hc s Q h; simp only [cCode] at hc; split at hc
  ·split at hc
   ·rename_i rg ra rb hg ha hb; split at hc
    ·rename_i hps; cases hc; obtain ⟨s0, hw, h⟩ := h; refine WP.weak hw ?_; split at h
     ·rename_i gf lb hgv; obtain ⟨hbd, h⟩ := h; refine WP.range hg hgv hbd (fun p hp => ?_) fun x hx => h x fun y bs R h1 h2 h3 => hx y bs R h1 (by simpa using h2) ?_
      ·have := List.all_eq_true.1 hps p hp; simpa using this
      ·refine WP.mono (iha ha h3) fun e s1 hq => ?_
       cases e with
       | normal => exact ⟨hq.1, WP.weakQ (ihb hb hq.2)⟩
       | ret => exact hq
       | exit id => exact hq
     ·exact h.elim
    ·cases hc
   ·cases hc
  ·cases hc
 | scope c ih => intro fl r hc s Q h; exact WP.scope (ih hc h)
 | goto => intro _ r hc; cases hc
 | refuse => intro _ r hc; cases hc
theorem RC.wp_mono {P : Program} : ∀ {c : RC} {s : St} {Q Q' : AX -> St -> Prop}, (∀ x s, Q x s -> Q' x s) -> c.wp P s Q -> c.wp P s Q'
 | .skip, _, _, _, hq, h => hq _ _ h
 | .reg _ _ _, _, _, _, hq, h => opsK_mono (fun _ hx => hq _ _ hx) h
 | .solo _ _ _, _, _, _, hq, h => soloK_mono (fun _ hx => hq _ _ hx) h
 | .mult _ _, _, _, _, hq, h => multK_mono (fun _ hx => hq _ _ hx) h
 | .both _ _ _ _, _, _, _, hq, h => multK_mono (fun _ hx => ⟨multK_mono (fun _ hx => hq _ _ hx) hx.1, multK_mono (fun _ hx => hq _ _ hx) hx.2⟩) h
 | .seq a b, s, Q, Q', hq, h => by
  refine RC.wp_mono (c := a) (fun x s' hx => ?_) h
  cases x with
  | normal => exact RC.wp_mono (c := b) hq hx
  | exit id => exact hq _ _ hx
  | ret => exact hq _ _ hx
 | .cond c a b, s, Q, Q', hq, h => by
  simp only [RC.wp] at h ⊢; split at h
  ·exact ⟨fun e => RC.wp_mono (c := a) hq (h.1 e), fun e => RC.wp_mono (c := b) hq (h.2 e)⟩
  ·exact h
 | .block id c, s, Q, Q', hq, h => by
  refine RC.wp_mono (c := c) (fun x s' hx => ?_) h
  cases x with
  | normal => exact hq _ _ hx
  | ret => exact hq _ _ hx
  | exit id' =>
   simp only [blockQ] at hx ⊢; split at hx
   ·exact hq _ _ hx
   ·exact hq _ _ hx
 | .loop c, s, Q, Q', hq, h => by
  obtain ⟨I, m, s0, h1, h2, h3⟩ := h; refine ⟨I, m, s0, h1, h2, fun m s hI => RC.wp_mono (c := c) (fun x s' hx => ?_) (h3 m s hI)⟩
  cases x with
  | normal => exact hx
  | exit id => exact hq _ _ hx
  | ret => exact hq _ _ hx
 | .range g ps a b, s, Q, Q', hq, h => by
  obtain ⟨s0, hw, h⟩ := h; refine ⟨s0, hw, ?_⟩; split at h
  ·obtain ⟨h1, h2⟩ := h; refine ⟨h1, fun x hx => ?_⟩; obtain ⟨QQ, h3, h4⟩ := h2 x hx; refine ⟨QQ, h3, fun r bs' hr => ?_⟩; rcases h4 r bs' hr with ⟨k1, k2⟩ | ⟨k1, k2⟩ | ⟨id, k1, k2⟩
   ·exact .inl ⟨k1, hq _ _ k2⟩
   ·exact .inr (.inl ⟨k1, hq _ _ k2⟩)
   ·exact .inr (.inr ⟨id, k1, hq _ _ k2⟩)
  ·exact h
 | .exit _, _, _, _, hq, h => hq _ _ h
 | .ret, _, _, _, hq, h => hq _ _ h
theorem Weak.claim (s : St) (t z : Nat) (l : List AV) (h : envGet s.env t = some (.sl .full l)) (hz : ∀ y ∈ l, y.cells.length = z) : Weak s (s.put (some t) (.sl (.own z) l)) := fun E G a w hs =>
 ⟨G, hs.claim (p := .sl t) (by simp only [St.at]; exact h) hz⟩
theorem Weak.norm (s : St) (t : Nat) (x : AV) (h : envGet s.env t = some x) : Weak s (s.put (some t) x.norm) := fun E G a w hs => by
 have hv := hs.val (.sl t) x (by simp only [St.at]; exact h)
 exact ⟨G, hs.upd (q := .sl t) (by simp only [St.at]; exact h) (by rw [← deown_norm]; exact hv.norm)⟩
def envLt (n : Nat) : List (Nat × AV) -> Bool
 | [] => true
 | (_, x) :: r => x.lt n && envLt n r
def boxesLt (n : Nat) : List Box -> Bool
 | [] => true
 | .cells cs :: r => cs.all (fun x => x.lt n) && boxesLt n r
 | .dead :: r => boxesLt n r
 | .loop _ :: r => boxesLt n r
 | .row cs :: r => cs.all (fun x => x.lt n) && boxesLt n r
 | .mp _ :: r => boxesLt n r
 | .mq _ _ :: r => boxesLt n r
 | .tab _ :: r => boxesLt n r
theorem envLt_get {n : Nat} : ∀ {e : List (Nat × AV)} {t : Nat} {x : AV}, envLt n e = true -> envGet e t = some x -> x.lt n = true
 | [], _, _, _, h => by cases h
 | (k, y) :: r, t, x, h, hg => by
  simp only [envLt, Bool.and_eq_true] at h; simp only [envGet] at hg; split at hg
  ·cases hg; exact h.1
  ·exact envLt_get h.2 hg
theorem boxesLt_get {n : Nat} : ∀ {bs : List Box} {b j : Nat} {cs : List AV} {x : AV}, boxesLt n bs = true -> boxCells bs b = some cs -> cs[j]? = some x -> x.lt n = true
 | [], _, _, _, _, _, h, _ => by simp [boxCells] at h
 | .cells ds :: r, 0, j, cs, x, h, hb, hj => by
  simp only [boxesLt, Bool.and_eq_true, List.all_eq_true] at h; simp only [boxCells, List.getElem?_cons_zero, Box.cs?, Option.some.injEq] at hb; subst hb
  exact h.1 x (List.mem_of_getElem? hj)
 | .row ds :: r, 0, j, cs, x, h, hb, hj => by
  simp only [boxesLt, Bool.and_eq_true, List.all_eq_true] at h; simp only [boxCells, List.getElem?_cons_zero, row_cs] at hb; split at hb
  ·cases hb
  ·cases hb
   exact h.1 x (List.mem_of_getElem? hj)
 | .dead :: r, 0, j, cs, x, h, hb, hj => by simp [boxCells, Box.cs?] at hb
 | .loop _ :: r, 0, j, cs, x, h, hb, hj => by simp [boxCells, Box.cs?] at hb
 | .mp _ :: r, 0, j, cs, x, h, hb, hj => by simp [boxCells, Box.cs?] at hb
 | .mq _ _ :: r, 0, j, cs, x, h, hb, hj => by simp [boxCells, Box.cs?] at hb
 | .tab _ :: r, 0, j, cs, x, h, hb, hj => by simp [boxCells, Box.cs?] at hb
 | .cells ds :: r, b + 1, j, cs, x, h, hb, hj => by
  simp only [boxesLt, Bool.and_eq_true] at h
  exact boxesLt_get (b := b) h.2 (by simpa [boxCells] using hb) hj
 | .row ds :: r, b + 1, j, cs, x, h, hb, hj => by
  simp only [boxesLt, Bool.and_eq_true] at h
  exact boxesLt_get (b := b) h.2 (by simpa [boxCells] using hb) hj
 | .dead :: r, b + 1, j, cs, x, h, hb, hj => by
  exact boxesLt_get (b := b) (by simpa [boxesLt] using h) (by simpa [boxCells] using hb) hj
 | .loop _ :: r, b + 1, j, cs, x, h, hb, hj => by
  exact boxesLt_get (b := b) (by simpa [boxesLt] using h) (by simpa [boxCells] using hb) hj
 | .mp _ :: r, b + 1, j, cs, x, h, hb, hj => by
  exact boxesLt_get (b := b) (by simpa [boxesLt] using h) (by simpa [boxCells] using hb) hj
 | .mq _ _ :: r, b + 1, j, cs, x, h, hb, hj => by
  exact boxesLt_get (b := b) (by simpa [boxesLt] using h) (by simpa [boxCells] using hb) hj
 | .tab _ :: r, b + 1, j, cs, x, h, hb, hj => by
  exact boxesLt_get (b := b) (by simpa [boxesLt] using h) (by simpa [boxCells] using hb) hj
theorem Weak.cut (s : St) (n : Nat) (hlo : s.lo ≤ n) (hn : n ≤ s.bs.length) (h1 : envLt n s.env = true) (h2 : boxesLt n (s.bs.take n) = true) : Weak s ⟨s.env, s.bs.take n, s.lo⟩ := fun E G a w hs => by
 have hbox : ∀ b cs, boxCells (s.bs.take n) b = some cs -> boxCells s.bs b = some cs := fun b cs hb => by
  simp only [boxCells, List.getElem?_take] at hb ⊢; split at hb
  ·rename_i q hq; split at hq
   ·rw [hq]; exact hb
   ·cases hq
  ·cases hb
 refine ⟨G, hs.forget (n := n) (by simp; omega) rfl hlo (fun p x hp => ?_) hbox (fun b x hb => ?_)⟩
 rotate_left
 ·simp only [boxLoop, List.getElem?_take] at hb ⊢; split at hb
  ·rename_i q hq; split at hq
   ·rw [hq]; exact hb
   ·cases hq
  ·cases hb
 cases p with
 | sl t => exact ⟨hp, envLt_get h1 hp⟩
 | bx b j =>
  simp only [St.at] at hp ⊢
  cases hb : boxCells (s.bs.take n) b with
  | none => rw [hb] at hp; cases hp
  | some cs =>
   rw [hb] at hp; rw [hbox b cs hb]; exact ⟨hp, boxesLt_get h2 hb hp⟩
inductive RRes where
 | slot (t : Nat)
 | cell (t : Nat) (agg : Bool) (n : Nat)
deriving Inhabited
def cRes (P : Program) : List ResultVar -> Option (List RRes)
 | [] => some []
 | .tmp t :: r => match cRes P r with
  | some rs => some (.slot t :: rs)
  | none => none
 | .cell t ty :: r => match cRes P r, aggOf P ty, szOf P ty with
  | some rs, some agg, some n => some (.cell t agg n :: rs)
  | _, _, _ => none
def resV (s : St) : RRes -> (AV -> Prop) -> Prop
 | .slot t, K => K (s.get t).deown
 | .cell t agg n, K => loadK agg n (s.rd (s.ev (.t t))) K
def resVs (s : St) : List RRes -> (List AV -> Prop) -> Prop
 | [], K => K []
 | r :: rs, K => resV s r fun x => resVs s rs fun xs => K (x :: xs)
def resK (s : St) (rs : List RRes) (K : AV -> List Box -> Prop) : Prop :=
 match rs with
 | [.slot t] => K (s.get t) s.bs
 | [r] => resV s r fun x => K x s.bs
 | rs => resVs s rs fun xs => K (.tup xs) s.bs
def retQ (rs : List RRes) (Q : AV -> List Box -> Prop) : AX -> St -> Prop
 | .normal, s => resK s rs Q
 | .ret, s => resK s rs Q
 | _, _ => False
def params : Nat -> List AV -> List (Nat × AV)
 | _, [] => []
 | k, x :: xs => (k, x) :: params (k + 1) xs
theorem params_get : ∀ (vals : List AV) (k t : Nat), envGet (params k vals) t = if k ≤ t then vals[t - k]? else none
 | [], k, t => by simp [params, envGet]
 | x :: xs, k, t => by
  simp only [params, envGet]
  by_cases h : k = t
  ·subst h; rw [beq_self]; simp
  ·rw [beq_ne h]; simp only; rw [params_get xs (k + 1) t]
   by_cases h2 : k ≤ t
   ·rw [if_pos (by omega), if_pos h2, show t - k = (t - (k + 1)) + 1 by omega]; simp
   ·rw [if_neg (by omega), if_neg h2]
section
variable {P : Program} {E : Entry} {G : Gh} {s : St} {a : Act} {w : World}
theorem RS.enter {bs : List Box} {lo : Nat} (h : RS E G ⟨[], bs, lo⟩ a w) {args : List Value} {vals : List AV} (hl : args.length = vals.length) (hv : ∀ j (h : j < vals.length) v, args[j]? = some v -> RV G.M G.σ bs.length vals[j] v) {nt : Nat} (hnt : vals.length ≤ nt) :
  RS (callE G bs w nt) { G with cl := noSlots G.cl } ⟨params 0 vals, bs, bs.length⟩ { tmps := args.toArray ++ Array.replicate (nt - args.toArray.size) undef, defers := [] } w := by
 have h0 := h.reAct (callE G bs w nt) { tmps := args.toArray ++ Array.replicate (nt - args.toArray.size) undef, defers := [] } (Fr.refl _ _ _ h.fr.kn) (by simp [callE]; omega) bs.length rfl (Nat.le_refl _) (fun _ _ => rfl) (fun B hB => .inl hB) rfl
 have hat : ∀ p x, (⟨params 0 vals, bs, bs.length⟩ : St).at p = some x -> (∃ t, p = .sl t ∧ vals[t]? = some x) ∨ (∃ b j, p = .bx b j ∧ (⟨[], bs, bs.length⟩ : St).at (.bx b j) = some x) := fun p x hp => by
  cases p with
  | sl t =>
   simp only [St.at, params_get] at hp; rw [if_pos (Nat.zero_le _), Nat.sub_zero] at hp
   exact .inl ⟨t, rfl, hp⟩
  | bx b j => exact .inr ⟨b, j, rfl, hp⟩
 have hslot : ∀ t x, vals[t]? = some x -> RV G.M G.σ bs.length x ((args.toArray ++ Array.replicate (nt - args.toArray.size) undef).getD t undef) := fun t x hx => by
  have ht : t < vals.length := by
   rcases Nat.lt_or_ge t vals.length with h1 | h1
   ·exact h1
   ·rw [List.getElem?_eq_none h1] at hx; cases hx
  rw [List.getElem?_eq_getElem ht] at hx; cases hx; have hta : t < args.length := by omega
  refine hv t ht _ ?_; rw [List.getElem?_eq_getElem hta]
  have : (args.toArray ++ Array.replicate (nt - args.toArray.size) undef)[t]? = some args[t] := by
   rw [Array.getElem?_append_left (by simpa using hta)]
   simp [hta]
  simp only [Array.getD_eq_getD_getElem?, this, Option.getD_some]
 refine ⟨h0.fr, h0.ok, h0.nt, fun p x hp => ?_, fun b j x hp => ?_, h0.box, h0.bmem, h0.inj, fun p z l hp => ?_, h0.clinj, h0.clbox, h0.cllt, h0.lo, h0.len, h0.sig, h0.sp⟩
 ·rcases hat p x hp with ⟨t, rfl, hx⟩ | ⟨b, j, rfl, hx⟩
  ·have := hslot t x hx; rw [this.deown_of]; exact this
  ·exact h0.val _ _ hx
 ·rcases hat _ x hp with ⟨t, e, _⟩ | ⟨b', j', e, hx⟩
  ·cases e
  ·cases e; exact h0.one _ _ _ hx
 ·rcases hat p _ hp with ⟨t, rfl, hx⟩ | ⟨b, j, rfl, hx⟩
  ·have := (hslot t _ hx).deown_of; simp [AV.deown] at this
  ·exact h0.own _ _ _ hx
def resSem (a : Act) (rv : ResultVar) : Go.Sem Value := match rv with
 | .tmp t => Pure.pure (a.tmps.getD t undef)
 | .cell q ty => do loadVar ty (← asAddr (a.tmps.getD q undef))
theorem resV_run (hs : RS E G s a w) {rv : ResultVar} {r : RRes} (hr : cRes P [rv] = some [r]) {K : AV -> Prop} (h : resV s r K) :
  ∃ x v, K x ∧ RV G.M G.σ s.bs.length x v ∧ (resSem a rv).run P w = .ok v w := by
 cases rv with
 | tmp t =>
  simp only [cRes, Option.some.injEq, List.cons.injEq, and_true] at hr; subst hr
  exact ⟨_, _, h, hs.getv t, rfl⟩
 | cell q ty =>
  simp only [cRes] at hr; split at hr
  ·rename_i rs agg n hrs ha hn; simp only [Option.some.injEq, List.cons.injEq] at hr; obtain ⟨rfl, rfl⟩ := hr; simp only [resV] at h; unfold loadK at h; split at h
   ·rename_i cs hcs; have hq := hs.ev (o := .tmp q) (r := .t q) rfl; split at h
    ·obtain ⟨h1, h2⟩ := req_iff.1 h; have hle := Nat.le_of_ble_eq_true h1; obtain ⟨B, off, hv, hc⟩ := hs.rd hq hcs; simp only [Act.eval] at hv; have hrun := run_loadCells_there P w B off n (fun j hj => let ⟨u, h, _⟩ := hc j (by omega); ⟨u, h⟩)
     refine ⟨_, .agg (cellList w B off n).toArray, h2, ?_, ?_⟩
     ·refine .agg _ _ (by simp [cellList]; omega) (fun u hu => ?_) (fun j hj u hu => ?_)
      ·simp only [cellList, List.mem_map, List.mem_range] at hu; obtain ⟨j, hj, rfl⟩ := hu; obtain ⟨u, h1, h2, _⟩ := hc j (by omega)
       rw [h1]; exact h2
      ·simp only [List.length_take] at hj; obtain ⟨u', h1, h2, h3⟩ := hc j (by omega)
       simp [cellList, show j < n by omega, h1] at hu
       subst hu; rw [List.getElem_take]; exact h3
     ·simp only [resSem]; simp [hv, asAddr, loadVar, aggOf_run ha, run_sizeOf' hn, hrun]
    ·split at h
     ·rename_i c rest; obtain ⟨B, off, hv, hc⟩ := hs.rd hq hcs; simp only [Act.eval] at hv; obtain ⟨u, h1, _, h3⟩ := hc 0 (by simp)
      rw [Nat.add_zero] at h1; exact ⟨_, u, h, h3, by simp only [resSem]; simp [hv, asAddr, loadVar, aggOf_run ha, h1]⟩
     ·exact h.elim
   ·exact h.elim
  ·cases hr
theorem cRes_cons {rv : ResultVar} {rvs : List ResultVar} {rs : List RRes} (h : cRes P (rv :: rvs) = some rs) : ∃ r rs', rs = r :: rs' ∧ cRes P [rv] = some [r] ∧ cRes P rvs = some rs' := by
 cases rv with
 | tmp t =>
  simp only [cRes] at h ⊢; split at h
  ·rename_i rs' hrs; cases h; exact ⟨_, _, rfl, rfl, hrs⟩
  ·cases h
 | cell q ty =>
  simp only [cRes] at h ⊢; split at h
  ·rename_i rs' agg n hrs ha hn; cases h; exact ⟨_, _, rfl, by simp [ha, hn], hrs⟩
  ·cases h
theorem resVs_run (hs : RS E G s a w) : ∀ {rvs : List ResultVar} {rs : List RRes}, cRes P rvs = some rs -> ∀ {K : List AV -> Prop}, resVs s rs K ->
  ∃ xs vs, K xs ∧ vs.length = xs.length ∧ (∀ j (h : j < xs.length) v, vs[j]? = some v -> RV G.M G.σ s.bs.length xs[j] v) ∧ (rvs.mapM (resSem a)).run P w = .ok vs w ∧ rvs.length = xs.length
 | [], rs, hr, K, h => by
  cases hr
  exact ⟨[], [], h, rfl, (fun j h => by cases h), by simp, rfl⟩
 | rv :: rvs, rs, hr, K, h => by
  obtain ⟨r, rs', rfl, h1, h2⟩ := cRes_cons hr; obtain ⟨x, v, h3, h4, h5⟩ := resV_run (P := P) hs h1 h; obtain ⟨xs, vs, h6, h7, h8, h9, h10⟩ := resVs_run hs h2 h3; refine ⟨x :: xs, v :: vs, h6, by simp [h7], fun j hj u hu => ?_, ?_, by simp [h10]⟩
  ·cases j with
   | zero => simp at hu; subst hu; exact h4
   | succ j => exact h8 j (by simpa using hj) u (by simpa using hu)
  ·rw [List.mapM_cons]; have h5' : (resSem a rv).run P w = .ok v w := h5; simp only [Sem.run_bind, h5', Result.andThen_ok, h9, Sem.run_pure]
theorem RS.leave (hs : RS E G s a w) (hE : E.nb = s.lo) {fn : Func} {rs : List RRes} (hr : cRes P fn.results.toList = some rs) {Q : AV -> List Box -> Prop} (h : resK s rs Q) :
  ∃ v r bs' G', (results fn a.tmps).run P w = .ok v w ∧ Q r bs' ∧ RS { E with nt := 1, dd := [] } G' ⟨[(0, r)], bs', s.lo⟩ ⟨#[v], []⟩ w := by
 have hre : ∀ u, RS { E with nt := 1, dd := [] } { G with cl := noSlots G.cl } ⟨[], s.bs, s.lo⟩ ⟨#[u], []⟩ w := fun u =>
  hs.reAct { E with nt := 1, dd := [] } _ hs.fr rfl s.lo hE.symm hs.len hs.sig (fun B hB => (FPof_mine hs hB).1) rfl
 have plain : ∀ x v, RV G.M G.σ s.bs.length x v -> RS { E with nt := 1, dd := [] } { G with cl := noSlots G.cl } ⟨[(0, x)], s.bs, s.lo⟩ ⟨#[v], []⟩ w := fun x v hv => (hre undef).put (k := 0) Nat.zero_lt_one hv
 have hres : (results fn a.tmps).run P w = ((fn.results.toList.mapM (resSem a)).run P w).andThen fun vs w' => .ok (if h : vs.length = 1 then vs[0] else .tuple vs.toArray) w' := by
  have he : results fn a.tmps = (do let vs ← fn.results.mapM (resSem a); Pure.pure (if h : vs.size = 1 then vs[0] else .tuple vs)) := by
   unfold results; congr 2
  rw [he, Array.mapM_eq_mapM_toList]; simp only [Sem.run_bind, Sem.run_map]; generalize (fn.results.toList.mapM (resSem a)).run P w = q
  cases q with
  | ok vs w' => simp
  | halt x w' => rfl
 unfold resK at h; split at h
 ·rename_i t
  match hfr : fn.results.toList, hr with
  | [rv], hr =>
   cases rv with
   | cell q ty =>
    simp only [cRes] at hr; split at hr
    ·simp only [Option.some.injEq, List.cons.injEq] at hr; cases hr.1
    ·cases hr
   | tmp t' =>
    simp only [cRes, Option.some.injEq, List.cons.injEq, RRes.slot.injEq, and_true] at hr; subst hr
    have hrun : (results fn a.tmps).run P w = .ok (a.tmps.getD t' undef) w := by
     rw [hres, hfr]; simp [resSem, List.mapM_cons]
    refine ⟨a.tmps.getD t' undef, s.get t', s.bs, ?_⟩
    by_cases hown : ∃ z l, s.get t' = .sl (.own z) l
    ·obtain ⟨z, l, hg⟩ := hown; have hat := get_own hg; obtain ⟨ad, k, hval, hz, hcl⟩ := hs.own _ _ _ hat; have hv := hs.val _ _ hat; simp only [AV.deown] at hv; obtain ⟨ad2, k2, B, off, hsv⟩ := hv.sv hz; have := hsv.eq; rw [hval] at this; cases this
     have hroom : Room { E with nt := 1, dd := [] } { G with cl := noSlots G.cl } ⟨[], s.bs, s.lo⟩ w ad z l.length k := by
      rcases hcl with hcl | ⟨B1, hc1, hc2, hrow⟩
      ·exact .inl hcl
      ·refine .inr ⟨B1, .sl 0, hc2, ⟨⟨hrow.lt, hrow.cells, hrow.free, hrow.mine⟩, fun q hq => ?_, fun b cs hb => hs.clbox _ B1 hc1 b cs hb, (hs.cllt _ B1 hc1).1, fun z' l' e => by simp [St.at, envGet] at e, fun b j e => by cases e⟩⟩
       cases q with
       | sl t => cases hq
       | bx b j => have := hs.clinj _ _ B1 hc1 hq; cases this
     obtain ⟨G', h3⟩ := (hre undef).putOwn (d := 0) Nat.zero_lt_one hsv hroom; refine ⟨G', hrun, h, ?_⟩; rw [hg]; exact h3
    ·refine ⟨_, hrun, h, plain _ _ ?_⟩; have := hs.getv t'
     have hd : (s.get t').deown = s.get t' := by
      generalize hg : s.get t' = g at *
      cases g with
      | sl c l => cases c with
       | own z => exact absurd ⟨z, l, rfl⟩ hown
       | _ => rfl
      | _ => rfl
     rwa [hd] at this
  | [], hr => simp [cRes] at hr
  | rv :: rv2 :: rvs, hr =>
   obtain ⟨r, rs', e, _, h2⟩ := cRes_cons hr; obtain ⟨r2, rs2, e2, _, _⟩ := cRes_cons h2; rw [e2] at e; cases e
 ·rename_i r hnot
  match hfr : fn.results.toList, hr with
  | [rv], hr =>
   obtain ⟨x, v, h3, h4, h5⟩ := resV_run (P := P) hs hr h; refine ⟨v, x, s.bs, _, ?_, h3, plain x v h4⟩; rw [hres, hfr]; have h5' : (resSem a rv).run P w = .ok v w := h5
   simp [List.mapM_cons, h5']
  | [], hr => simp [cRes] at hr
  | rv :: rv2 :: rvs, hr =>
   obtain ⟨r, rs', e, _, h2⟩ := cRes_cons hr; obtain ⟨r2, rs2, e2, _, _⟩ := cRes_cons h2; rw [e2] at e; cases e
 ·rename_i hn1 hn2; obtain ⟨xs, vs, h3, h4, h5, h6, h7⟩ := resVs_run (P := P) hs hr h
  have hlen : vs.length ≠ 1 := fun e => by
   match hfr : fn.results.toList, hr with
   | [], hr => rw [hfr] at h7; simp at h7; omega
   | [rv], hr =>
    obtain ⟨r, rs', e, _, h2⟩ := cRes_cons hr; cases h2
    exact hn2 r e
   | rv :: rv2 :: rvs, hr => rw [hfr] at h7; simp at h7; omega
  refine ⟨.tuple vs.toArray, .tup xs, s.bs, _, ?_, h3, plain _ _ (.tup xs vs h4 h5)⟩; rw [hres, h6]; simp [hlen]
end
theorem Sem.of {P : Program} {f : FuncId} {fn : Func} {c : Code} {rc : RC} {keeps : List (Nat × List Nat)} {solo : List (Nat × Nat)} {rs : List RRes} (hf : P.funcs[f]? = some fn) (hb : fn.body = some c) (hm : P.follows .mixedOrders = true) (hc : cCode P fn.ntmps keeps solo true c = some rc) (hr : cRes P fn.results.toList = some rs)
  {vals : List AV} {bs : List Box} {Q : AV -> List Box -> Prop} (hn : vals.length ≤ fn.ntmps) (h : rc.wp P ⟨params 0 vals, bs, bs.length⟩ fun x s => ∃ s', Weak s s' ∧ retQ rs Q x s') : Sem P f vals bs Q := by
 intro E G a0 w args lo hpre hl hv; refine (callsIn_wide (n := 0)).1 (callsIn_of_wp_marks (F := F0 none) hf hb trivial ?_); have h1 := hpre.enter hl hv hn; refine wpIn_mono (WP.weakQ (cCode_sound hm hc h) (callE G bs w fn.ntmps) _ _ w none 0 h1 ⟨rfl, fun _ => rfl⟩) ?_; rintro e a' w' ⟨x, s', G', rfl, q, hs'⟩
 have fin : resK s' rs Q -> LeavesInM (F0 none) 0 P fn a'.tmps (fun e w' => ∃ v r bs' G', e = .returned v ∧ Q r bs' ∧ RS (callE G bs w 1) G' ⟨[(0, r)], bs', bs.length⟩ ⟨#[v], []⟩ w') a'.defers .returning w' := fun q => by
  refine hs'.leaves rfl _ rfl fun w2 h2 => ?_; obtain ⟨v, r, bs', G2, h3, h4, h5⟩ := h2.leave h2.lo.symm hr q; have hlo : s'.lo = bs.length := hs'.lo; rw [hlo] at h5; exact ⟨v, h3, v, r, bs', G2, rfl, h4, h5⟩
 cases x with
 | normal => exact fin q
 | ret => exact fin q
 | exit id => exact q.elim
theorem Sem.pure {P : Program} {f : FuncId} {vals : List AV} {Q : AV -> Prop} (h : Sem P f vals [] fun r _ => Q r) (hvals : ∀ x ∈ vals, x.lt 0 = true) (hQ : ∀ r, Q r -> r.lt 0 = true) (bs : List Box) : Sem P f vals bs fun r bs' => Q r ∧ bs' = bs := by
 intro E G a0 w args lo hpre hl hv
 have h0 : RS ⟨fun _ => False, G.M, w, 0, 0, G.σ, []⟩ ⟨G.M, G.σ, fun _ => none⟩ ⟨[], [], 0⟩ ⟨#[], []⟩ w := by
  have hat : ∀ p x, (⟨[], [], 0⟩ : St).at p = some x -> False := fun p x hp => by
   cases p with
   | sl t => simp [St.at, envGet] at hp
   | bx b j => simp [St.at, boxCells] at hp
  have hbx : ∀ b cs, boxCells ([] : List Box) b = some cs -> False := fun b cs hb => by simp [boxCells] at hb
  exact ⟨Fr.refl _ _ _ hpre.fr.kn, hpre.ok, rfl, fun p x hp => (hat p x hp).elim, fun b j x hp => (hat _ x hp).elim, fun b cs hb => (hbx b cs hb).elim, fun b cs hb => (hbx b cs hb).elim, fun b b' cs cs' hb _ _ => (hbx b cs hb).elim, fun p z l hp => (hat p _ hp).elim, (fun p q B hp => by cases hp), (fun p B hp => by cases hp), (fun p B hp => by cases hp), rfl, Nat.le_refl _, (fun b hb => by cases hb), Sp.none _ _ _ _ _ _⟩
 refine (h _ _ _ w args 0 h0 hl (fun j hj v hjv => ?_)).mono ?_
 ·exact ((hv j hj v hjv).lt (hvals _ (List.getElem_mem hj))).mono (Hp.le_refl _) (Nat.le_refl _) (fun _ _ => rfl)
 ·rintro e w' ⟨v, r, bs', G', rfl, hq, h'⟩; refine ⟨v, r, bs, ⟨G'.M, G.σ, fun p => match p with | .sl 0 => G'.cl (.sl 0) | .sl _ => none | .bx b j => G.cl (.bx b j)⟩, rfl, ⟨hq, rfl⟩, ?_⟩
  have hno : ∀ B, ¬ FPof ⟨G.M, G.σ, fun _ => none⟩ [] B := fun B hB => by
   rcases hB with ⟨b, cs, hb, _⟩ | ⟨b, j, hb⟩ | ⟨b, x, hb, _⟩
   ·simp [boxCells] at hb
   ·cases hb
   ·exact boxLoop_nil hb
  have hfr : Fr (FPof ⟨G.M, G.σ, fun _ => none⟩ []) G.M w G'.M w' := h'.fr; have hat0 : (⟨[(0, r)], bs', ([] : List Box).length⟩ : St).at (.sl 0) = some r := rfl
  have hnew : ∀ q B, G'.cl q = some B -> w.heap.size ≤ B := fun q B hB => by
   rcases (h'.cllt q B hB).2 with h1 | h1
   ·exact absurd h1 (hno B)
   ·exact h1
  have hatc : ∀ p x, (⟨[(0, r)], bs, bs.length⟩ : St).at p = some x -> (p = .sl 0 ∧ x = r) ∨ (∃ b j, p = .bx b j ∧ (⟨[], bs, lo⟩ : St).at (.bx b j) = some x) := fun p x hp => by
   cases p with
   | sl t =>
    simp only [St.at, envGet] at hp; split at hp
    ·rename_i hb; have := Nat.eq_of_beq_eq_true hb; subst this; cases hp; exact .inl ⟨rfl, rfl⟩
    ·cases hp
   | bx b j => exact .inr ⟨b, j, rfl, hp⟩
  have hbv : ∀ b j x, (⟨[], bs, lo⟩ : St).at (.bx b j) = some x -> valAt G.σ ⟨#[v], []⟩ w' (.bx b j) = valAt G.σ a0 w (.bx b j) := fun b j x hx => by
   simp only [St.at] at hx
   cases hb : boxCells bs b with
   | none => rw [hb] at hx; cases hx
   | some cs => simp only [valAt]; rw [cell_heap (hfr.heap _ (hpre.blt hb) (hno _))]
  have hrv : RV G'.M G.σ bs.length r.deown v := by
   have h1 := h'.val _ _ hat0; have h2 := h1.lt (m := 0) (by rw [lt_deown]; exact hQ r hq)
   exact h2.mono (Hp.le_refl _) (Nat.zero_le _) (fun b hb => by cases hb)
  refine ⟨⟨hfr.os, hfr.tape, hfr.output, hfr.size, hfr.le, fun B hB _ => hfr.heap B hB (hno B), fun B hB _ => hfr.mem B hB (hno B), hfr.kn⟩, h'.ok, rfl, fun p x hp => ?_, fun b j x hp => ?_, fun b cs hb => ?_, fun b cs hb => ?_, hpre.inj, fun p z l hp => ?_, fun p q B hp hq' => ?_, fun p B hB b cs hb => ?_, fun p B hB => ?_, rfl, Nat.le_refl _, fun _ _ => rfl, ?_⟩
  ·rcases hatc p x hp with ⟨rfl, rfl⟩ | ⟨b, j, rfl, hx⟩
   ·exact hrv
   ·show RV G'.M G.σ bs.length x.deown _; rw [hbv b j x hx]; exact (hpre.val _ _ hx).mono hfr.le (Nat.le_refl _) (fun _ _ => rfl)
  ·rcases hatc _ x hp with ⟨e, _⟩ | ⟨b', j', e, hx⟩
   ·cases e
   ·cases e; show (valAt G.σ _ w' _).oneCell' = true; rw [hbv b j x hx]; exact hpre.one _ _ _ hx
  ·obtain ⟨vs, T, h1, h2⟩ := hpre.box b cs hb; exact ⟨vs, T, (hfr.heap _ (hpre.blt hb) (hno _)).trans h1, h2⟩
  ·obtain ⟨h1, _⟩ := hpre.bmem b cs hb; exact ⟨fun o => (hfr.mem _ (hpre.blt hb) (hno _) o).trans (h1 o), .inl (.inl ⟨b, cs, hb, rfl⟩)⟩
  ·rcases hatc p _ hp with ⟨rfl, hx⟩ | ⟨b, j, rfl, hx⟩
   ·subst hx; obtain ⟨ad, k, h1, h2, h3⟩ := h'.own _ _ _ hat0; refine ⟨ad, k, h1, h2, ?_⟩; rcases h3 with h3 | ⟨B, hB, h4, h5⟩
    ·exact .inl h3
    ·exact .inr ⟨B, hB, h4, h5.lt, h5.cells, h5.free, .inr (hnew _ B hB)⟩
   ·obtain ⟨ad, k, h1, h2, h3⟩ := hpre.own _ _ _ hx; refine ⟨ad, k, (hbv b j _ hx).trans h1, h2, ?_⟩; rcases h3 with h3 | ⟨B, hB, h4, h5⟩
    ·exact .inl h3
    ·have hlt := (hpre.cllt _ B hB).1; obtain ⟨vs, T, h6, h7⟩ := h5.cells; exact .inr ⟨B, hB, h4, h5.lt, ⟨vs, T, (hfr.heap B hlt (hno B)).trans h6, h7⟩, fun o ho => (hfr.mem B hlt (hno B) o).trans (h5.free o ho), .inl (.inr (.inl ⟨b, j, hB⟩))⟩
  ·cases p with
   | sl t =>
    cases t with
    | zero =>
     cases q with
     | sl u =>
      cases u with
      | zero => rfl
      | succ u => cases hq'
     | bx b j =>
      have h1 := hnew _ B hp; have h2 := (hpre.cllt _ B hq').1
      omega
    | succ t => cases hp
   | bx b j =>
    cases q with
    | sl u =>
     cases u with
     | zero =>
      have h1 := hnew _ B hq'; have h2 := (hpre.cllt _ B hp).1
      omega
     | succ u => cases hq'
    | bx b' j' => exact hpre.clinj _ _ B hp hq'
  ·cases p with
   | sl t =>
    cases t with
    | zero =>
     have h1 := hnew _ B hB; have h2 := hpre.blt hb; intro e; have e' : G.σ b = B := e; have h2' : G.σ b < w.heap.size := h2
     omega
    | succ t => cases hB
   | bx b' j' => exact hpre.clbox _ B hB b cs hb
  ·cases p with
   | sl t =>
    cases t with
    | zero => exact ⟨(h'.cllt _ B hB).1, .inr (hnew _ B hB)⟩
    | succ t => cases hB
   | bx b' j' => exact ⟨Nat.lt_of_lt_of_le (hpre.cllt _ B hB).1 hfr.size, .inl (.inr (.inl ⟨b', j', hB⟩))⟩
  ·refine ⟨fun B o hs => ?_, fun b x hb => ?_, hpre.sp.inj, ⟨[], rfl, .nil⟩, fun b x hb j B o hj => by
    obtain ⟨q1, q2, q3⟩ := hpre.sp.rows b x hb j B o hj; have hlt := (hpre.cllt _ B q2).1; exact ⟨(hfr.heap B hlt (hno B)).trans q1, q2, fun k => (hfr.mem B hlt (hno B) k).trans (q3 k)⟩⟩
   ·rcases hs with ⟨b, x, hb, e, ho⟩ | ⟨hmem, _⟩
    ·obtain ⟨h1, h2, _⟩ := hpre.sp.ob B o (.inl ⟨b, x, hb, e, ho⟩); have hlt := (Array.getElem?_eq_some_iff.1 h1).1; refine ⟨(hfr.heap B hlt (hno B)).trans h1, fun p hp => ?_, .inl (.inr (.inr ⟨b, x, hb, e⟩))⟩
     cases p with
     | sl t =>
      cases t with
      | zero => have := hnew _ B hp; omega
      | succ t => cases hp
     | bx b' j' => exact h2 _ hp
    ·cases hmem
   ·obtain ⟨h1, h2, h3⟩ := hpre.sp.base b x hb; exact ⟨Hp.le_trans h1 hfr.le, h2, h3⟩
theorem Fun.of {P : Program} {f : FuncId} {vals : List AV} {r : AV} (h : Sem P f vals [] fun r' _ => r' = r) (hvals : vals.all (fun x => x.lt 0) = true) (hr : r.lt 0 = true) : Fun P f vals r :=
 Sem.pure h (by simpa using hvals) (fun r' e => by rw [e]; exact hr)
theorem Sem.calls {P : Program} {f : FuncId} {vals : List AV} {Q : AV -> List Box -> Prop} (h : Sem P f vals [] Q) {M : Hp} {w : World} (hM : M.le (Hp.of w)) (hK : Kn M w) {args : List Value} (hl : args.length = vals.length) (hv : ∀ j (h : j < vals.length) v, args[j]? = some v -> FV M vals[j] v) :
  Calls P f args.toArray w fun e w' => ∃ v r bs' M' σ n, e = .returned v ∧ Q r bs' ∧ RV M' σ n r.deown v ∧ Ext w w' ∧ M'.le (Hp.of w') := by
 have h0 : RS ⟨fun _ => False, M, w, 0, 0, fun _ => 0, []⟩ ⟨M, fun _ => 0, fun _ => none⟩ ⟨[], [], 0⟩ ⟨#[], []⟩ w := by
  have hat : ∀ p x, (⟨[], [], 0⟩ : St).at p = some x -> False := fun p x hp => by
   cases p with
   | sl t => simp [St.at, envGet] at hp
   | bx b j => simp [St.at, boxCells] at hp
  have hbx : ∀ b cs, boxCells ([] : List Box) b = some cs -> False := fun b cs hb => by simp [boxCells] at hb
  exact ⟨Fr.refl _ _ _ hK, hM, rfl, fun p x hp => (hat p x hp).elim, fun b j x hp => (hat _ x hp).elim, fun b cs hb => (hbx b cs hb).elim, fun b cs hb => (hbx b cs hb).elim, fun b b' cs cs' hb _ _ => (hbx b cs hb).elim, fun p z l hp => (hat p _ hp).elim, (fun p q B hp => by cases hp), (fun p B hp => by cases hp), (fun p B hp => by cases hp), rfl, Nat.le_refl _, (fun b hb => by cases hb), Sp.none _ _ _ _ _ _⟩
 refine (h _ _ _ w args 0 h0 hl (fun j hj v hjv => .flat (hv j hj v hjv))).mono ?_; rintro e w' ⟨v, r, bs', G', rfl, hq, h'⟩
 have hno : ∀ B, ¬ FPof ⟨M, fun _ => 0, fun _ => none⟩ [] B := fun B hB => by
  rcases hB with ⟨b, cs, hb, _⟩ | ⟨b, j, hb⟩ | ⟨b, x, hb, _⟩
  ·simp [boxCells] at hb
  ·cases hb
  ·exact boxLoop_nil hb
 refine ⟨v, r, bs', G'.M, G'.σ, _, rfl, hq, h'.val (.sl 0) r rfl, ⟨⟨h'.fr.os, h'.fr.tape, h'.fr.output, h'.fr.size, fun B hB => h'.fr.heap B hB (hno B)⟩⟩, h'.ok⟩
end Go.AM
namespace Go.AM
open Go.CK Go.RowKit
def lits : List Nat := [0, 1, 2, 3, 4, 5, 6, 7, 8, 9, 10, 11, 12, 13, 14, 15, 16, 17, 18, 19, 20, 21, 22, 23, 24, 25, 26, 27, 28, 29, 30, 31, 32, 33, 34, 35, 36, 37, 38, 39, 40]
def natF (n : Nat) (K : Nat -> Prop) : Prop :=
 match lits[n]? with
 | some m => K m
 | none => K n
theorem natF_eq (n : Nat) (K : Nat -> Prop) : natF n K = K n := by
 unfold natF; split
 ·rename_i m h
  have : m = n := by
   have hlt : n < lits.length := by
    rcases Nat.lt_or_ge n lits.length with h1 | h1
    ·exact h1
    ·rw [List.getElem?_eq_none h1] at h; cases h
   have hall : ∀ k, (hk : k < lits.length) -> lits[k] = k := by decide
   rw [List.getElem?_eq_getElem hlt] at h; cases h; exact hall n hlt
  rw [this]
 ·rfl
def f1 (x : AV) (K : AV -> Prop) : Prop :=
 match x with
 | .top => K .top
 | .bool b => K (.bool b)
 | .int k n => K (.int k n)
 | .str s => K (.str s)
 | .sl o l => match o with
  | .no => K (.sl .no l)
  | .full => K (.sl .full l)
  | .own z => K (.sl (.own z) l)
 | .agg cs => K (.agg cs)
 | .tup vs => K (.tup vs)
 | .ptr b off => natF b fun b => natF off fun off => K (.ptr b off)
 | .nptr => K .nptr
 | .ept cs => K (.ept cs)
 | .fn f xs ys => K (.fn f xs ys)
 | .yl b => K (.yl b)
 | .bsl b m k => natF b fun b => K (.bsl b m k)
 | .elp b i z off => natF b fun b => K (.elp b i z off)
 | .mpt b => natF b fun b => K (.mpt b)
 | .nfn => K .nfn
 | .nmp => K .nmp
 | .nifc => K .nifc
 | .lit a n k => K (.lit a n k)
theorem f1_eq (x : AV) (K : AV -> Prop) : f1 x K = K x := by
 cases x <;> first | (simp only [f1, natF_eq]; done) | skip
 rename_i o l; cases o <;> rfl
def fs (l : List AV) (K : List AV -> Prop) : Prop :=
 match l with
 | [] => K []
 | x :: xs => f1 x fun x => fs xs fun xs => K (x :: xs)
theorem fs_eq : ∀ (l : List AV) (K : List AV -> Prop), fs l K = K l
 | [], _ => rfl
 | x :: xs, K => by rw [fs, f1_eq, fs_eq xs]
def fv (x : AV) (K : AV -> Prop) : Prop :=
 match x with
 | .agg cs => fs cs fun cs => K (.agg cs)
 | .tup cs => fs cs fun cs => K (.tup cs)
 | .ept cs => fs cs fun cs => K (.ept cs)
 | .fn f xs ys => fs xs fun xs => fs ys fun ys => K (.fn f xs ys)
 | x => f1 x K
theorem fv_eq (x : AV) (K : AV -> Prop) : fv x K = K x := by
 cases x <;> simp only [fv, fs_eq, f1_eq]
def fvs (l : List AV) (K : List AV -> Prop) : Prop :=
 match l with
 | [] => K []
 | x :: xs => fv x fun x => fvs xs fun xs => K (x :: xs)
theorem fvs_eq : ∀ (l : List AV) (K : List AV -> Prop), fvs l K = K l
 | [], _ => rfl
 | x :: xs, K => by rw [fvs, fv_eq, fvs_eq xs]
def fvq (x : AV) (K : AV -> Prop) : Prop :=
 match x with
 | .ptr b off => K (.ptr b off)
 | .bsl b m k => K (.bsl b m k)
 | .elp b i z off => K (.elp b i z off)
 | .mpt b => K (.mpt b)
 | .fn f xs ys => K (.fn f xs ys)
 | x => fv x K
theorem fvq_eq (x : AV) (K : AV -> Prop) : fvq x K = K x := by
 cases x <;> simp only [fvq, fv_eq]
def fvqs (l : List AV) (K : List AV -> Prop) : Prop :=
 match l with
 | [] => K []
 | x :: xs => fvq x fun x => fvqs xs fun xs => K (x :: xs)
theorem fvqs_eq : ∀ (l : List AV) (K : List AV -> Prop), fvqs l K = K l
 | [], _ => rfl
 | x :: xs, K => by rw [fvqs, fvq_eq, fvqs_eq xs]
def fvn (fb : Bool) (x : AV) (K : AV -> Prop) : Prop :=
 match fb with
 | true => fv x K
 | false => fvq x K
theorem fvn_eq (fb : Bool) (x : AV) (K : AV -> Prop) : fvn fb x K = K x := by
 cases fb
 ·simp only [fvn, fvq_eq]
 ·simp only [fvn, fv_eq]
def fEnv (fb : Bool) (e : List (Nat × AV)) (K : List (Nat × AV) -> Prop) : Prop :=
 match e with
 | [] => K []
 | (t, x) :: r => fvn fb x fun x => fEnv fb r fun r => K ((t, x) :: r)
theorem fEnv_eq (fb : Bool) : ∀ (e : List (Nat × AV)) (K : List (Nat × AV) -> Prop), fEnv fb e K = K e
 | [], _ => rfl
 | (t, x) :: r, K => by rw [fEnv, fvn_eq, fEnv_eq fb r]
def fBs (e : List Box) (K : List Box -> Prop) : Prop :=
 match e with
 | [] => K []
 | .cells cs :: r => fs cs fun cs => fBs r fun r => K (.cells cs :: r)
 | .dead :: r => fBs r fun r => K (.dead :: r)
 | .loop x :: r => fBs r fun r => K (.loop x :: r)
 | .row x :: r => fBs r fun r => K (.row x :: r)
 | .mp x :: r => fBs r fun r => K (.mp x :: r)
 | .mq x c :: r => fBs r fun r => K (.mq x c :: r)
 | .tab x :: r => fBs r fun r => K (.tab x :: r)
theorem fBs_eq : ∀ (e : List Box) (K : List Box -> Prop), fBs e K = K e
 | [], _ => rfl
 | .cells cs :: r, K => by rw [fBs, fs_eq, fBs_eq r]
 | .dead :: r, K => by rw [fBs, fBs_eq r]
 | .loop x :: r, K => by rw [fBs, fBs_eq r]
 | .row x :: r, K => by rw [fBs, fBs_eq r]
 | .mp x :: r, K => by rw [fBs, fBs_eq r]
 | .mq x c :: r, K => by rw [fBs, fBs_eq r]
 | .tab x :: r, K => by rw [fBs, fBs_eq r]
def St.fo (fb : Bool) (s : St) (K : St -> Prop) : Prop := match s with
 | ⟨e, bs, lo⟩ => fEnv fb e fun e => match fb with
  | true => fBs bs fun bs => natF lo fun lo => K ⟨e, bs, lo⟩
  | false => K ⟨e, bs, lo⟩
theorem St.fo_eq (fb : Bool) (s : St) (K : St -> Prop) : s.fo fb K = K s := by
 cases fb <;> simp only [St.fo, fEnv_eq, fBs_eq, natF_eq]
structure CallN (P : Program) (f : FuncId) (vals raw : List AV) (bs : List Box) (K : AV -> List Box -> Prop) : Prop where
 sem : ∃ Q, (Sem P f vals bs Q ∨ Sem P f raw bs Q) ∧ ∀ r bs', Q r bs' -> K r bs'
theorem CallN.of {P : Program} {f : FuncId} {vals raw : List AV} {bs : List Box} {K : AV -> List Box -> Prop} {Q : AV -> List Box -> Prop} (h : Sem P f vals bs Q) (hK : ∀ r bs', Q r bs' -> K r bs') : CallN P f vals raw bs K := ⟨Q, .inl h, hK⟩
theorem CallN.raw {P : Program} {f : FuncId} {vals raw : List AV} {bs : List Box} {K : AV -> List Box -> Prop} {Q : AV -> List Box -> Prop} (h : Sem P f raw bs Q) (hK : ∀ r bs', Q r bs' -> K r bs') : CallN P f vals raw bs K := ⟨Q, .inr h, hK⟩
theorem CallN.fn {P : Program} {f : FuncId} {vals raw : List AV} {bs : List Box} {K : AV -> List Box -> Prop} {r : AV} (h : Fun P f vals r) (hK : K r bs) : CallN P f vals raw bs K := ⟨_, .inl (h bs), fun r' bs' ⟨e1, e2⟩ => by subst e1 e2; exact hK⟩
structure CallP (P : Program) (f : FuncId) (vals : List AV) (K : AV -> Prop) : Prop where
 sem : ∃ r, Fun P f vals r ∧ K r
theorem CallP.fn {P : Program} {f : FuncId} {vals : List AV} {K : AV -> Prop} {r : AV} (h : Fun P f vals r) (hK : K r) : CallP P f vals K := ⟨r, h, hK⟩
structure YieldN (P : Program) (b : Nat) (vals : List AV) (bs : List Box) (K : AV -> List Box -> Prop) : Prop where
 sem : ∃ Q, SemY P b vals bs Q ∧ ∀ r bs', Q r bs' -> K r bs'
theorem YieldN.of {P : Program} {b : Nat} {vals : List AV} {bs : List Box} {K : AV -> List Box -> Prop} {Q : AV -> List Box -> Prop} (h : SemY P b vals bs Q) (hK : ∀ r bs', Q r bs' -> K r bs') : YieldN P b vals bs K := ⟨Q, h, hK⟩
def St.pt (s : St) (d : Option Nat) (x : AV) : St := match s with
 | ⟨e, bs, lo⟩ => match d with
  | some k => ⟨envPut e k x, bs, lo⟩
  | none => ⟨e, bs, lo⟩
theorem St.pt_eq (s : St) (d : Option Nat) (x : AV) : s.pt d x = s.put d x := by cases s; cases d <;> rfl
def St.kp (s : St) (ks : List Nat) : St := match s with
 | ⟨e, bs, lo⟩ => ⟨envKeep (fun k => mem k ks) e, bs, lo⟩
def St.wb (s : St) (bs' : List Box) : St := match s with
 | ⟨e, _, lo⟩ => ⟨e, bs', lo⟩
theorem St.wb_eq (s : St) (bs' : List Box) : s.wb bs' = ⟨s.env, bs', s.lo⟩ := by cases s; rfl
def fsq (l : List AV) (K : List AV -> Prop) : Prop := fvqs l K
theorem fsq_eq (l : List AV) (K : List AV -> Prop) : fsq l K = K l := fvqs_eq l K
def callF (P : Program) (dr : Bool) (s : St) (d : Option Nat) (f : AV) (args : List AV) (K : St -> Prop) : Prop :=
 match f with
 | .fn (.func f) xs ys => fvqs ((xs ++ args ++ ys).map AV.norm) fun vals => match dr with
  | true => CallP P f vals fun r => K (s.pt d r)
  | false => match s with
   | ⟨e, bs, lo⟩ => CallN P f vals (xs ++ args ++ ys) bs fun r bs' => K (St.pt ⟨e, bs', lo⟩ d r)
 | .yl b => match dr with
  | true => False
  | false => fvqs (args.map AV.norm) fun vals => match s with
   | ⟨e, bs, lo⟩ => YieldN P b vals bs fun r bs' => K (St.pt ⟨e, bs', lo⟩ d r)
 | _ => False
theorem callF_eq {P : Program} {dr : Bool} {s : St} {d : Option Nat} {f : AV} {args : List AV} {K : St -> Prop} : callF P dr s d f args K = (match dr with
  | true => pcallK P f args fun r => K (s.put d r)
  | false => callK P s d f args K) := by
 cases dr with
 | true =>
  cases f <;> try rfl
  rename_i f xs ys; cases f <;> try rfl
  simp only [callF, pcallK, fvqs_eq, St.pt_eq]
  exact propext ⟨fun h => h.sem, fun h => ⟨h⟩⟩
 | false =>
  cases f <;> try rfl
  ·rename_i f xs ys; cases f <;> try rfl
   simp only [callF, callK, fvqs_eq, St.pt_eq, St.wb_eq]; exact propext ⟨fun h => h.sem, fun h => ⟨h⟩⟩
  ·simp only [callF, callK, fvqs_eq, St.pt_eq, St.wb_eq]; exact propext ⟨fun h => h.sem, fun h => ⟨h⟩⟩
structure EndN (s t : St) : Prop where
 out : Weak s t
end Go.AM
namespace Go.AM
open Go.CK Go.RowKit
end Go.AM
namespace Go.AM
open Go.CK Go.RowKit
section
variable {E : Entry} {G : Gh} {s : St} {a : Act} {w : World}
theorem RS.dead (h : RS E G s a w) {b : Nat} {cs : List AV} (hb : boxCells s.bs b = some cs) (hf : ∀ x ∈ cs, x.flat1 = true) :
  ∃ G' : Gh, RS E G' ⟨s.env, s.bs.set b .dead, s.lo⟩ a w ∧ G'.σ = G.σ ∧ Cells G'.M (G.σ b) 0 cs := by
 obtain ⟨vs, T, h1, h2⟩ := h.box b cs hb; obtain ⟨hM, hmine⟩ := h.bmem b cs hb; have hle : G.M.le (addCells G.M (G.σ b) 0 vs.toList) := addCells_le fun o _ => hM o
 have hat : ∀ p x, (⟨s.env, s.bs.set b .dead, s.lo⟩ : St).at p = some x -> s.at p = some x ∧ ∀ j, p ≠ .bx b j := fun p x hp => by
  cases p with
  | sl t => exact ⟨hp, fun j e => by cases e⟩
  | bx c j =>
   simp only [St.at, boxCells_setDead] at hp ⊢
   by_cases e : c = b
   ·rw [if_pos e] at hp; cases hp
   ·rw [if_neg e] at hp; exact ⟨hp, fun j' e' => by cases e'; exact e rfl⟩
 have hbc : ∀ c ds, boxCells (s.bs.set b .dead) c = some ds -> boxCells s.bs c = some ds ∧ G.σ c ≠ G.σ b := fun c ds hc => by
  rw [boxCells_setDead] at hc
  by_cases e : c = b
  ·rw [if_pos e] at hc; cases hc
  ·rw [if_neg e] at hc; exact ⟨hc, fun e2 => e (h.inj c b ds cs hc hb e2)⟩
 have hlen : (s.bs.set b .dead).length = s.bs.length := by simp
 refine ⟨{ G with M := addCells G.M (G.σ b) 0 vs.toList }, ⟨⟨h.fr.os, h.fr.tape, h.fr.output, h.fr.size, Hp.le_trans h.fr.le hle, h.fr.heap, fun B hB hn o => ?_, h.fr.kn.mono hle⟩, fun c o v hv => ?_, h.nt, fun p x hp => ?_, fun c j x hp => h.one c j x (hat _ x hp).1, fun c ds hc => h.box c ds (hbc c ds hc).1, fun c ds hc => ?_, fun c c' ds ds' hc hc' e => h.inj c c' ds ds' (hbc c ds hc).1 (hbc c' ds' hc').1 e, fun p z l hp => ?_, h.clinj, fun p B hB c ds hc => h.clbox p B hB c ds (hbc c ds hc).1, h.cllt, h.lo, by rw [hlen]; exact h.len, h.sig, ?_⟩, rfl, fun j hj => ?_⟩
 ·have hne : B ≠ G.σ b := fun e => by
   subst e; rcases hmine with h3 | h3
   ·exact hn h3
   ·omega
  exact (addCells_ne hne o).trans (h.fr.mem B hB hn o)
 ·rcases addCells_inv hv with ⟨rfl, j, rfl, hj⟩ | hv
  ·simp only [Hp.of, World.cell?, h1]; simpa using hj
  ·exact h.ok c o v hv
 ·rw [hlen]; exact (h.val p x (hat p x hp).1).mono hle (Nat.le_refl _) (fun _ _ => rfl)
 ·obtain ⟨h3, h4⟩ := hbc c ds hc; obtain ⟨h5, h6⟩ := h.bmem c ds h3; exact ⟨fun o => (addCells_ne h4 o).trans (h5 o), h6⟩
 ·obtain ⟨ad, k, h3, h4, h5⟩ := h.own p z l (hat p _ hp).1; refine ⟨ad, k, h3, h4, ?_⟩; rcases h5 with h5 | ⟨B, hB, h6, h7⟩
  ·exact .inl h5
  ·exact .inr ⟨B, hB, h6, h7.lt, h7.cells, fun o ho => (addCells_ne (fun e => h.clbox p B hB b cs hb e.symm) o).trans (h7.free o ho), h7.mine⟩
 ·refine h.sp.step hle (fun _ _ => rfl) (fun c x hc => ?_) (fun _ _ k _ => k) (fun _ _ _ _ p k => ⟨p, k⟩) (fun _ k => k) (fun c j B o _ q1 q2 => ⟨q1, q2, fun q3 k => (addCells_ne (fun e => h.clbox _ B q1 b cs hb e.symm) k).trans (q3 k)⟩); rw [boxLoop_setDead] at hc; split at hc
  ·cases hc
  ·exact hc
 ·obtain ⟨u, h3, h4, h5⟩ := h.bval hb j hj; have hfl := hf _ (List.getElem_mem hj)
  have hd : (cs[j]).deown = cs[j] := by
   generalize cs[j] = y at *; cases y <;> try rfl
   rename_i o l; cases o <;> first | rfl | cases hfl
  rw [hd] at h5
  have hju : vs.toList[j]? = some u := by
   simp only [World.cell?, h1] at h3; simpa using h3
  exact ⟨u, by have := addCells_at (M := G.M) (B := G.σ b) (off := 0) hju; exact this, h4, (h5.flat1 hfl).mono hle⟩
end
end Go.AM
namespace Go.AM
open Go.CK Go.RowKit
section
variable {E : Entry} {G : Gh} {a : Act} {w : World}
end
end Go.AM
namespace Go.AM
open Go.CK Go.RowKit
end Go.AM
