/-
  THE ABSTRACT MACHINE, 17: a box that is written no more becomes memory that stays as it is. No function of the program is named here. By an AI agent.
-/
import Derived.Test.YtamhnlajkncccaaDoorAmG
set_option linter.unusedSimpArgs false
set_option linter.unusedVariables false
namespace Go.AM
open Go.CK Go.RowKit

def thaw0 (b : Nat) (cs : List AV) : AV → AV
  | .ptr b' off => match Nat.beq b' b with
    | true => .ept (cs.drop off)
    | false => .ptr b' off
  | x => x
/-- pointers to box b, as pointers to what it holds -/
def thaw (b : Nat) (cs : List AV) : AV → AV
  | .fn f xs ys => .fn f (xs.map (thaw0 b cs)) (ys.map (thaw0 b cs))
  | x => thaw0 b cs x
theorem RV.thaw0 {M : Hp} {σ : Nat → Nat} {n b : Nat} {cs : List AV} (hc : Cells M (σ b) 0 cs) {x : AV} {v : Value} (h : RV M σ n x v) : RV M σ n (thaw0 b cs x) v := by
  unfold AM.thaw0
  split
  · rename_i b' off
    obtain ⟨rfl, _⟩ := h.inv_ptr
    split
    · rename_i hb
      have := Nat.eq_of_beq_eq_true hb
      subst this
      refine .ept _ _ _ ?_
      have := hc.drop off
      rwa [Nat.zero_add] at this
    · exact h
  · exact h
theorem RV.thaw {M : Hp} {σ : Nat → Nat} {n b : Nat} {cs : List AV} (hc : Cells M (σ b) 0 cs) {x : AV} {v : Value} (h : RV M σ n x v) : RV M σ n (thaw b cs x) v := by
  unfold AM.thaw
  split
  · rename_i f xs ys
    obtain ⟨us, vs, rfl, h1, h2, h3, h4⟩ := h.inv_fn
    refine .fn f _ _ us vs (by simp [h1]) (by simp [h2]) (fun j hj v hv => ?_) (fun j hj v hv => ?_)
    · simp only [List.length_map] at hj
      rw [List.getElem_map]; exact (h3 j hj v hv).thaw0 hc
    · simp only [List.length_map] at hj
      rw [List.getElem_map]; exact (h4 j hj v hv).thaw0 hc
  · exact h.thaw0 hc

section
variable {E : Entry} {G : Gh} {s : St} {a : Act} {w : World}
theorem RS.dead (h : RS E G s a w) {b : Nat} {cs : List AV} (hb : boxCells s.bs b = some cs) (hf : ∀ x ∈ cs, x.flat1 = true) :
    ∃ G' : Gh, RS E G' ⟨s.env, s.bs.set b .dead, s.lo⟩ a w ∧ G'.σ = G.σ ∧ Cells G'.M (G.σ b) 0 cs := by
  obtain ⟨vs, T, h1, h2⟩ := h.box b cs hb
  obtain ⟨hM, hmine⟩ := h.bmem b cs hb
  have hle : G.M.le (addCells G.M (G.σ b) 0 vs.toList) := addCells_le fun o _ => hM o
  have hat : ∀ p x, (⟨s.env, s.bs.set b .dead, s.lo⟩ : St).at p = some x → s.at p = some x ∧ ∀ j, p ≠ .bx b j := fun p x hp => by
    cases p with
    | sl t => exact ⟨hp, fun j e => by cases e⟩
    | bx c j =>
      simp only [St.at, boxCells_setDead] at hp ⊢
      by_cases e : c = b
      · rw [if_pos e] at hp; cases hp
      · rw [if_neg e] at hp
        exact ⟨hp, fun j' e' => by cases e'; exact e rfl⟩
  have hbc : ∀ c ds, boxCells (s.bs.set b .dead) c = some ds → boxCells s.bs c = some ds ∧ G.σ c ≠ G.σ b := fun c ds hc => by
    rw [boxCells_setDead] at hc
    by_cases e : c = b
    · rw [if_pos e] at hc; cases hc
    · rw [if_neg e] at hc
      exact ⟨hc, fun e2 => e (h.inj c b ds cs hc hb e2)⟩
  have hlen : (s.bs.set b .dead).length = s.bs.length := by simp
  refine ⟨{ G with M := addCells G.M (G.σ b) 0 vs.toList }, ⟨⟨h.fr.os, h.fr.tape, h.fr.output, h.fr.size, Hp.le_trans h.fr.le hle, h.fr.heap, fun B hB hn o => ?_⟩, fun c o v hv => ?_, h.nt, fun p x hp => ?_, fun c j x hp => h.one c j x (hat _ x hp).1, fun c ds hc => h.box c ds (hbc c ds hc).1, fun c ds hc => ?_, fun c c' ds ds' hc hc' e => h.inj c c' ds ds' (hbc c ds hc).1 (hbc c' ds' hc').1 e, fun p z l hp => ?_, h.clinj, fun p B hB c ds hc => h.clbox p B hB c ds (hbc c ds hc).1, h.cllt, h.lo, by rw [hlen]; exact h.len, h.sig, ?_⟩, rfl, fun j hj => ?_⟩
  · have hne : B ≠ G.σ b := fun e => by
      subst e
      rcases hmine with h3 | h3
      · exact hn h3
      · omega
    exact (addCells_ne hne o).trans (h.fr.mem B hB hn o)
  · rcases addCells_inv hv with ⟨rfl, j, rfl, hj⟩ | hv
    · simp only [Hp.of, World.cell?, h1]
      simpa using hj
    · exact h.ok c o v hv
  · rw [hlen]
    exact (h.val p x (hat p x hp).1).mono hle (Nat.le_refl _) (fun _ _ => rfl)
  · obtain ⟨h3, h4⟩ := hbc c ds hc
    obtain ⟨h5, h6⟩ := h.bmem c ds h3
    exact ⟨fun o => (addCells_ne h4 o).trans (h5 o), h6⟩
  · obtain ⟨ad, k, h3, h4, h5⟩ := h.own p z l (hat p _ hp).1
    refine ⟨ad, k, h3, h4, ?_⟩
    rcases h5 with h5 | ⟨B, hB, h6, h7⟩
    · exact .inl h5
    · exact .inr ⟨B, hB, h6, h7.lt, h7.cells, fun o ho => (addCells_ne (fun e => h.clbox p B hB b cs hb e.symm) o).trans (h7.free o ho), h7.mine⟩
  · refine h.sp.step hle (fun _ _ => rfl) (fun c x hc => ?_) (fun _ _ k _ => k) (fun _ _ _ _ p k => ⟨p, k⟩) (fun _ k => k)
    rw [boxLoop_setDead] at hc
    split at hc
    · cases hc
    · exact hc
  · obtain ⟨u, h3, h4, h5⟩ := h.bval hb j hj
    have hfl := hf _ (List.getElem_mem hj)
    have hd : (cs[j]).deown = cs[j] := by
      generalize cs[j] = y at *
      cases y <;> try rfl
      rename_i o l
      cases o <;> first | rfl | cases hfl
    rw [hd] at h5
    have hju : vs.toList[j]? = some u := by
      simp only [World.cell?, h1] at h3
      simpa using h3
    exact ⟨u, by have := addCells_at (M := G.M) (B := G.σ b) (off := 0) hju; exact this, h4, (h5.flat1 hfl).mono hle⟩

/-- slot t's pointers to box b are pointers to what stays as it is -/
theorem Weak.freeze (s : St) (t b : Nat) {cs : List AV} {x : AV} (ht : envGet s.env t = some x) (hb : boxCells s.bs b = some cs) (hf : cs.all AV.flat1 = true) (hx : x.deown = x) : Weak s ⟨envPut s.env t (thaw b cs x), s.bs.set b .dead, s.lo⟩ := fun E G a w hs => by
  obtain ⟨G', h1, h2, h3⟩ := hs.dead hb (by simpa using hf)
  have hat : (⟨s.env, s.bs.set b .dead, s.lo⟩ : St).at (.sl t) = some x := ht
  have hv := h1.val _ _ hat
  rw [hx] at hv
  rw [← h2] at h3
  exact ⟨G', h1.upd (q := .sl t) hat (hv.thaw h3)⟩
end
theorem RetN.freeze {s : St} {t : Nat} (b : Nat) {cs : List AV} {x : AV} {Q : AV → List Box → Prop} (h0 : envGet s.env t = some x) (hb : boxCells s.bs b = some cs) (hf : cs.all AV.flat1 = true) (hx : x.deown = x) (h : fv (thaw b cs x) fun x => Q x (s.bs.set b .dead)) : RetN s [.slot t] Q :=
  ⟨_, Weak.freeze s t b h0 hb hf hx, by
    have : (⟨envPut s.env t (thaw b cs x), s.bs.set b .dead, s.lo⟩ : St).get t = thaw b cs x := by simp [St.get, envGet_put]
    simp only [resK]
    rw [fv_eq] at h
    rw [this]; exact h⟩
theorem EndN.keep {s t : St} (ks : List Nat) (h : EndN (s.keep ks) t) : EndN s t := ⟨(Weak.keep s ks).trans h.out⟩
end Go.AM
