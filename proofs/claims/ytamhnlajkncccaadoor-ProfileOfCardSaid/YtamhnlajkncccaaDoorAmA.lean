/-
  THE ABSTRACT MACHINE, 6: append, make, slice literals. No function of the program is named here. By an AI agent.
-/
import Derived.Test.YtamhnlajkncccaaDoorAmN
set_option linter.unusedSimpArgs false
set_option linter.unusedVariables false
namespace Go.AM
open Go.CK Go.RowKit

section
variable {E : Entry} {G : Gh} {s : St} {a : Act} {w : World} {P : Program}

def Room (E : Entry) (G : Gh) (s : St) (w : World) (ad : Option Addr) (z n k : Nat) : Prop := k = n ∨ ∃ B p, ad = some ⟨B, 0, none⟩ ∧ Spare E G s w B z n k p

theorem append_core (h : RS E G s a w) {t e z : Nat} (he : EInf P t e z) {l xs : List AV} {v vx : Value} {ad xa : Option Addr} {k B off c Bx offx : Nat} (hv : SV G.M l z v ad k B off) (hx : SV G.M xs z vx xa c Bx offx)
    (hlen : l.length + xs.length ≤ glim) (hroom : Room E G s w ad z l.length k) (ty : TypeId) :
    ∃ v' G' w', (Builtin.append_ #[t, t] ty #[v, vx]).run P w = .ok v' w' ∧ RS E G' s a w' ∧ ∃ ad' k' B' off', SV G'.M (l ++ xs) z v' ad' k' B' off' ∧ Room E G' s w' ad' z (l ++ xs).length k' := by
  obtain ⟨i, zv, hi, hz, hsz, hzs, hb⟩ := he.ex
  obtain ⟨us, u1, u2, u3⟩ := hv.row h.ok
  obtain ⟨xs', x1, x2, x3⟩ := hx.row h.ok
  have hun := append_unfold (P := P) he.sl hi hz hsz rfl ty ad l.length k xa xs.length c w hlen hb
  rw [hv.eq, hx.eq, hun]
  have hnil : ∀ (q : List AV), q.length ≠ 0 → q ≠ [] := fun q hq e => hq (by simp [e])
  by_cases hfit : l.length + xs.length ≤ k
  · rw [if_pos hfit, firstCells_run (P := P) w x1.1 (fun h0 => hx.at_ (hnil _ h0)) x3]
    simp only [Result.andThen_ok]
    rcases hroom with rfl | ⟨B1, p, rfl, hs⟩
    · have hxs : xs = [] := List.length_eq_zero_iff.1 (by omega)
      subst hxs
      have : xs' = [] := List.length_eq_zero_iff.1 (by rw [x1.1]; simp)
      subst this
      refine ⟨.slice ad l.length l.length, G, w, ?_, h, ad, l.length, B, off, ?_, .inl (by simp)⟩
      · cases ad <;> simp [storeCells]
      · rw [List.append_nil]; exact ⟨rfl, hv.cap, hv.len, hv.at_, hv.el⟩
    · have hB : l ≠ [] → B = B1 ∧ off = 0 := fun h0 => by
        have := hv.at_ h0
        simp only [Option.some.injEq, Addr.mk.injEq, and_true] at this
        exact ⟨this.1.symm, this.2.symm⟩
      obtain ⟨w', r1, r2, r3, r4⟩ := h.fill (P := P) hs xs' x1.1 hfit x2
      have hMle : G.M.le (addCells G.M B1 (l.length * z) xs') := addCells_le hs.row.free
      refine ⟨_, _, w', ?_, r2, some ⟨B1, 0, none⟩, k, B1, 0, ⟨by rw [List.length_append], by simpa using hfit, by simp only [List.length_append];unfold glim at hlen;first|(unfold glim;omega)|(unfold lim;omega), fun _ => rfl, ?_⟩, ?_⟩
      · simp only
        rw [addr_add, Nat.zero_add, r1]; rfl
      · refine (u1.append x1).elems hMle fun j u hj => ?_
        by_cases hjl : j < us.length
        · rw [List.getElem?_append_left hjl] at hj
          have hl0 : l ≠ [] := fun e => by subst e; rw [u1.1] at hjl; simp at hjl
          obtain ⟨rfl, rfl⟩ := hB hl0
          refine hMle _ _ _ ?_
          obtain ⟨us2, y1, y2⟩ := hv.el.rowOf
          have hlen2 : us2.length = us.length := by rw [y1.1, u1.1]
          have hj2 := y2 j (us2[j]'(by omega)) (List.getElem?_eq_getElem _)
          have h8 := u3 j u hj
          have h9 := h.ok _ _ _ hj2
          simp only [Hp.of] at h9
          rw [h9] at h8
          rw [hj2, h8]
        · rw [List.getElem?_append_right (by omega)] at hj
          have : j = l.length * z + (j - us.length) := by rw [← u1.1]; omega
          rw [Nat.zero_add, this]
          exact addCells_at hj
      · by_cases hlt : l.length + xs.length < k
        · exact .inr ⟨B1, p, rfl, by rw [List.length_append]; exact r4 hlt⟩
        · exact .inl (by rw [List.length_append]; omega)
  · rw [if_neg hfit]
    have hg := grownCap_ge w (l.length + xs.length) k e
    rw [firstCells_run (P := P) w.drew u1.1 (fun h0 => hv.at_ (hnil _ h0)) (by simpa using u3)]
    simp only [Result.andThen_ok]
    rw [firstCells_run (P := P) w.drew x1.1 (fun h0 => hx.at_ (hnil _ h0)) (by simpa using x3)]
    simp only [Result.andThen_ok]
    have hd : RS E G s a w.drew := h.drew
    have hvs : (us.toArray ++ xs'.toArray ++ Builtin.zeroCells zv.cells (grownCap w (l.length + xs.length) k e - (l.length + xs.length))).size = grownCap w (l.length + xs.length) k e * z := by
      have h1 := u1.1
      have h2 := x1.1
      simp only [Array.size_append, List.size_toArray, size_zeroCells, hzs, h1, h2, ← Nat.add_mul]
      congr 1; omega
    have hr := hd.newRow (us.toArray ++ xs'.toArray ++ Builtin.zeroCells zv.cells (grownCap w (l.length + xs.length) k e - (l.length + xs.length))) e (us ++ xs') (fun j u hj => by
      have hjl : j < (us ++ xs').length := by
        rcases Nat.lt_or_ge j (us ++ xs').length with h1 | h1
        · exact h1
        · rw [List.getElem?_eq_none h1] at hj; cases hj
      show ((us.toArray ++ xs'.toArray) ++ Builtin.zeroCells zv.cells _)[j]? = some u
      rw [Array.getElem?_append_left (by simpa using hjl)]
      simpa using hj)
    refine ⟨_, _, _, rfl, hr, some ⟨w.drew.heap.size, 0, none⟩, _, w.drew.heap.size, 0, ⟨by rw [List.length_append], by simpa using hg, by simp only [List.length_append];unfold glim at hlen;first|(unfold glim;omega)|(unfold lim;omega), fun _ => rfl, ?_⟩, ?_⟩
    · exact (u1.append x1).elems (addCells_le fun o _ => hd.noM o) fun j u hj => addCells_at hj
    · by_cases hlt : l.length + xs.length < grownCap w (l.length + xs.length) k e
      · refine .inr ⟨w.drew.heap.size, .bx s.bs.length 0, rfl, ⟨⟨by rw [List.length_append]; exact hlt, ⟨_, e, heap_alloc_new _ _, hvs⟩, fun o ho => ?_, .inr h.fr.size⟩, fun q hq => ?_, fun b cs hb e => ?_, by simp, fun z l e => ?_⟩⟩
        · simp only [addCells]
          rw [if_neg (fun e => by
            have h1 := e.2.2
            have h2 := (u1.append x1).1
            omega)]
          exact hd.noM o
        · exact absurd (hd.cllt q _ hq).1 (by omega)
        · exact absurd (hd.blt hb) (by have e' : G.σ b = w.drew.heap.size := e; omega)
        · simp [St.at, boxCells] at e
      · exact .inl (by rw [List.length_append]; omega)

theorem envPut_put : ∀ (e : List (Nat × AV)) (k : Nat) (x y : AV), envPut (envPut e k x) k y = envPut e k y
  | [], k, x, y => by simp [envPut]
  | (t, u) :: r, k, x, y => by
    simp only [envPut]
    cases h1 : Nat.beq t k with
    | true =>
      have h : Nat.beq k k = true := by simp
      simp only [envPut, h]
    | false =>
      cases h2 : Nat.blt k t with
      | true =>
        have h : Nat.beq k k = true := by simp
        simp only [envPut, h]
      | false =>
        simp only [envPut, h1, h2]
        rw [envPut_put r k x y]
theorem St.put_put (s : St) (k : Nat) (x y : AV) : (s.put (some k) x).upd (.sl k) y = s.put (some k) y := by
  simp [St.put, St.upd, envPut_put]

/-- a slice of one's own, into a slot -/
theorem RS.putOwn (h : RS E G s a w) {d : Nat} (hd : d < E.nt) {l : List AV} {z : Nat} {v : Value} {ad : Option Addr} {k B off : Nat} (hv : SV G.M l z v ad k B off) (hroom : Room E G s w ad z l.length k) :
    ∃ G', RS E G' (s.put (some d) (.sl (.own z) l)) (a.put (some d) v) w := by
  have hz : ∀ y ∈ l, y.cells.length = z := fun y hy => by
    obtain ⟨i, hi, rfl⟩ := List.mem_iff_getElem.1 hy
    exact (hv.el i hi).1
  have hd' : d < a.tmps.size := by rw [h.nt]; exact hd
  rcases hroom with hk | ⟨B1, p, had, hs⟩
  · have h1 := h.put hd (hv.rv (σ := G.σ) (n := s.bs.length) (o := .full) (by simp) (fun _ => hk))
    have hat : (s.put (some d) (.sl .full l)).at (.sl d) = some (.sl .full l) := by rw [St.at_put, if_pos rfl]
    have h2 := h1.claim hat hz
    rw [St.put_put] at h2
    exact ⟨G, h2⟩
  · have h1 := h.put hd (hv.rv (σ := G.σ) (n := s.bs.length) (o := .no) (by simp) (by simp))
    have hat : (s.put (some d) (.sl .no l)).at (.sl d) = some (.sl .no l) := by rw [St.at_put, if_pos rfl]
    have h2 := h1.own_of (p := p) hat (by rw [valAt_put a w d v _ hd', if_pos rfl, hv.eq, had]) ⟨hs.row, hs.only, hs.box, hs.lt, fun z' l' e => by
      rw [St.at_put] at e
      by_cases hp : p = .sl d
      · rw [if_pos hp] at e; cases e
      · rw [if_neg hp] at e; exact hs.not _ _ e⟩ hz
    rw [St.put_put] at h2
    exact ⟨_, h2⟩
end

/-- what a builtin call runs -/
theorem exec_builtin2 (P : Program) (ρ : Operand → Value) (o : Oper) {b : Builtin} {x y : Operand} {ts : Array TypeId} (ho : o.op = .call { callee := .builtin b, args := #[x, y], argTypes := ts }) (hb : b = .append ∨ b = .copy ∨ b = .delete) (w : World) :
    (execOp ρ o).run P w = ((match b with | .append => Builtin.append_ ts o.type #[ρ x, ρ y] | .copy => Builtin.copy_ ts o.type #[ρ x, ρ y] | _ => Builtin.delete_ ts o.type #[ρ x, ρ y] : Sem Value).run P w).andThen fun v w' => .ok (.value v) w' := by
  unfold execOp
  rcases hb with rfl | rfl | rfl <;> simp [ho, resolve, invoke, builtin]

def appendK (z : Nat) (s : St) (o : Opd) (x : AV) (K : AV → St → Prop) : Prop :=
  match x with
  | .sl _ xs => match o with
    | .t t => match s.get t with
      | .sl (.own z') l => req (Nat.beq z z') (((∀ y ∈ xs, y.cells.length = z) ∧ l.length + xs.length ≤ glim) ∧ K (.sl (.own z) (l ++ xs)) (s.put (some t) (.sl .no l)))
      | .sl .full l => ((∀ y ∈ l ++ xs, y.cells.length = z) ∧ l.length + xs.length ≤ glim) ∧ K (.sl (.own z) (l ++ xs)) s
      | _ => False
    | .c (.sl .full l) => ((∀ y ∈ l ++ xs, y.cells.length = z) ∧ l.length + xs.length ≤ glim) ∧ K (.sl (.own z) (l ++ xs)) s
    | _ => False
  | _ => False

theorem append_fin {P : Program} {s s1 : St} {o : Oper} {x y : Operand} {t e z d : Nat} (ho : o.op = .call { callee := .builtin .append, args := #[x, y], argTypes := #[t, t] }) (hdst : o.dst = some d) (he : EInf P t e z) {l xs : List AV} {oy : Cap}
    {ry : Opd} (hy : opd y = some ry) (hxe : s.ev ry = .sl oy xs) (hxz : ∀ y ∈ xs, y.cells.length = z) (hlen : l.length + xs.length ≤ glim) {K : St → Prop} (hK : K (s1.put (some d) (.sl (.own z) (l ++ xs))))
    (hsrc : ∀ E G a w, RS E G s a w → ∃ G1, RS E G1 s1 a w ∧ G1.M = G.M ∧ G1.σ = G.σ ∧ ∃ ad k B off, SV G.M l z (a.eval x) ad k B off ∧ Room E G1 s1 w ad z l.length k) : OpS P o s K := by
  intro E G a w rd n next Q hs hdlt hnext
  obtain ⟨G1, h1, hM, hσ, ad, k, B, off, hv, hroom⟩ := hsrc E G a w hs
  have hyv := hs.ev hy
  rw [hxe] at hyv
  obtain ⟨xa, c, Bx, offx, hxv⟩ := hyv.sv hxz
  rw [← hM] at hv hxv
  obtain ⟨v', G', w', hrun, h2, ad', k', B', off', hv', hroom'⟩ := append_core (P := P) h1 he hv hxv hlen hroom o.type
  obtain ⟨G2, h3⟩ := h2.putOwn (hdlt d hdst) hv' hroom'
  refine ⟨fun _ _ => trivial, ?_⟩
  rw [Oper.semAt_eq _ _ _ (fun c e => by rw [ho] at e; cases e), exec_builtin2 P _ o ho (.inl rfl)]
  simp only [hrun, Result.andThen_ok]
  show next (a.put o.dst v') w'
  rw [hdst]
  exact hnext _ G2 _ w' hK h3 rfl

theorem append_sound {P : Program} {s : St} {o : Oper} {x y : Operand} {t e z d : Nat} (ho : o.op = .call { callee := .builtin .append, args := #[x, y], argTypes := #[t, t] }) (hdst : o.dst = some d) (he : EInf P t e z)
    {rx ry : Opd} (hx : opd x = some rx) (hy : opd y = some ry) {K : St → Prop} (h : appendK z s rx (s.ev ry) fun r s' => K (s'.put o.dst r)) : OpS P o s K := by
  rw [hdst] at h
  unfold appendK at h
  split at h
  · rename_i oy xs hxe
    have hfull : ∀ l, s.ev rx = .sl .full l → (∀ y ∈ l ++ xs, y.cells.length = z) → l.length + xs.length ≤ glim → K (s.put (some d) (.sl (.own z) (l ++ xs))) → OpS P o s K := fun l hl hz hlen hK => by
      refine append_fin ho hdst he hy hxe (fun y hy => hz y (List.mem_append_right _ hy)) hlen hK fun E G a w hs => ⟨G, hs, rfl, rfl, ?_⟩
      have hv := hs.ev hx
      rw [hl] at hv
      obtain ⟨ad, k, B, off, hsv⟩ := hv.sv (fun y hy => hz y (List.mem_append_left _ hy))
      refine ⟨ad, k, B, off, hsv, .inl ?_⟩
      obtain ⟨ad2, k2, _, _, _, h1, _, _, _, h2, _⟩ := hv.inv_sl
      rw [hsv.eq] at h1
      cases h1
      exact h2 rfl
    split at h
    · rename_i t0
      split at h
      · rename_i z' l hg
        obtain ⟨h1, ⟨h2, h3⟩, h4⟩ := req_iff.1 h
        have hzz := Nat.eq_of_beq_eq_true h1
        subst hzz
        refine append_fin ho hdst he hy hxe h2 h3 h4 fun E G a w hs => ?_
        have hat : s.at (.sl t0) = some (.sl (.own z) l) := by
          have := hg
          rw [St.get_at] at this
          cases hq : s.at (.sl t0) with
          | none => rw [hq] at this; cases this
          | some q => rw [hq] at this; simp at this; rw [this]
        have hev : a.eval x = valAt G.σ a w (.sl t0) := by
          cases x with
          | tmp t => cases hx; rfl
          | const v =>
            simp only [opd] at hx
            cases hv : avOf v with
            | none => rw [hv] at hx; cases hx
            | some x => rw [hv] at hx; cases hx
          | func f => cases hx
          | global g => cases hx
        have hv := hs.val _ _ hat
        simp only [AV.deown] at hv
        obtain ⟨ad, k, hval, hz, hcl⟩ := hs.own _ _ _ hat
        have h5 : RS E G (s.put (some t0) (.sl .no l)) a w := hs.upd (q := .sl t0) hat hv
        refine ⟨G, h5, rfl, rfl, ?_⟩
        rw [hev]
        obtain ⟨ad2, k2, B, off, hsv⟩ := hv.sv hz
        have := hsv.eq
        rw [hval] at this
        cases this
        refine ⟨ad, k, B, off, hsv, ?_⟩
        rcases hcl with hcl | ⟨B1, hc1, hc2, hrow⟩
        · exact .inl hcl
        · refine .inr ⟨B1, .sl t0, hc2, ⟨hrow, fun q hq => hs.clinj q _ B1 hq hc1, fun b cs hb => hs.clbox _ B1 hc1 b cs hb, (hs.cllt _ B1 hc1).1, fun z' l' e => ?_⟩⟩
          rw [St.at_put, if_pos rfl] at e; cases e
      · rename_i l hg
        exact hfull l (by simp [St.ev, hg, AV.deown]) h.1.1 h.1.2 h.2
      · exact h.elim
    · rename_i l
      exact hfull l rfl h.1.1 h.1.2 h.2
    · exact h.elim
  · exact h.elim
end Go.AM
