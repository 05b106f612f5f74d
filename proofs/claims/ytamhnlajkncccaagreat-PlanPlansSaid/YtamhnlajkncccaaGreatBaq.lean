/-
  Texts of this claim joined (wip/gen/bundle.py), those declarations only that are needed: AmTa AmVx Cmp Lay SrtW SrtM. By an AI agent.
-/
import Derived.Test.YtamhnlajkncccaaGreatBap
import Derived.Test.YtamhnlajkncccaaGreatBaa
import Derived.Ground.NamesProg
import Derived.Ground.GgzProg
import Derived.Shelf.Sort.Plain
import Derived.Shelf.Slices.In.SortNone
import Derived.Shelf.SlIterI.Sorted
import Derived.Test.YtamhnlajkncccaaGreatProg
import Derived.RangeFuncBox
import Derived.RangeFuncLeaves
import Derived.Shelf.Abstract
import Derived.WalkKit
import Derived.OwnWalkIn
import Derived.TacticsInMore
import Derived.LoopNIn
import Derived.LoopIn
import Derived.Maps.AppendAt
import Derived.Lib.RowBridge
namespace Go.AM
open Go.CK Go.RowKit
variable {A B K : Prop} {b : Bool} {p : Prop}
theorem cY (k : A) (h : b = true := by with_reducible rfl) : CondN b A B := .yes h k
theorem cN (k : B) (h : b = false := by with_reducible rfl) : CondN b A B := .no h k
theorem cI [Decidable p] (k : A) (h : p := by omega) : CondN (decide p) A B := .is h k
theorem cJ [Decidable p] (k : B) (h : ¬ p := by omega) : CondN (decide p) A B := .isnt h k
theorem cYa (k : A) (h : b = true := by assumption) : CondN b A B := .yes h k
theorem cNa (k : B) (h : b = false := by assumption) : CondN b A B := .no h k
theorem cId [Decidable p] (k : A) (h : p := by decide) : CondN (decide p) A B := .is h k
theorem cJd [Decidable p] (k : B) (h : ¬ p := by decide) : CondN (decide p) A B := .isnt h k
theorem wI {n : Int} {K : Int → Prop} (k : K n) (h : -9223372036854775808 ≤ n ∧ n ≤ 9223372036854775807 := by omega) : WrapN .i64 n K := .i64 h k
theorem nS (k : K) (h : p := by first | omega | assumption | (show mapOk _ = true; rfl) | (simp; done) | (simp; omega) | (simp [lim,glim]; done) | (simp [lim,glim]; omega) | ((repeat' (first | assumption | exact Szs.nil | exact Szs.tm | refine Szs.app ?_ ?_ | refine Szs.cons rfl ?_ | exact Szs.map (fun _ => rfl) | exact Szs.rep rfl | refine Szs.take ?_ _ | refine Szs.drop ?_ _ | refine Szs.set ?_ rfl _)); done)) : NeedN p K := ⟨h, k⟩
theorem iA {l : List Tm} {n : Nat} {K : AV → Prop} {x : Tm} (k : K x.avw) (h : l[n]? = some x := by assumption) : IdxN 4 (l.map Tm.av) (n : Int) K := Go.CK.IdxN.tmK h k
section
variable {α : Type} {f : α → AV} {sz : Nat} {l : List α} {K : AV → Prop} {x : α}
theorem iE {n : Nat} (k : K (f x)) (h : l[n]? = some x := by assumption) (hs : ∀ x, (f x).cells.length = sz := by intro _; rfl) : IdxN sz (l.map f) (n : Int) K := .knownN h hs k
theorem iF {n : Int} (k : K (f x)) (h : l[n.toNat]? = some x := by assumption) (h0 : 0 ≤ n := by omega) (hs : ∀ x, (f x).cells.length = sz := by intro _; rfl) : IdxN sz (l.map f) n K := .known h h0 hs k
theorem iH {n : Nat} (k : ∀ x, l[n]? = some x → K (f x)) (h1 : n < l.length := by omega) (hs : ∀ x, (f x).cells.length = sz := by intro _; rfl) : IdxN sz (l.map f) (n : Int) K := .mapN h1 hs k
theorem iI {n : Int} (k : ∀ x, l[n.toNat]? = some x → K (f x)) (h0 : 0 ≤ n := by omega) (h1 : n < l.length := by omega) (hs : ∀ x, (f x).cells.length = sz := by intro _; rfl) : IdxN sz (l.map f) n K := .map h0 h1 hs k
end
theorem iJ {sz : Nat} {l : List AV} {n : Int} {K : AV → Prop} {y : AV} (k : K y) (h : l[n.toNat]? = some y := by rfl) (h0 : 0 ≤ n := by decide) (hs : y.cells.length = sz := by first | rfl | assumption) : IdxN sz l n K := .of h0 h hs k
theorem hB {P : Program} {f : FuncId} (k : K) (h : hasBody P f = true := by kernel_rfl) : HasN P f K := ⟨h, k⟩
theorem aP {bs : List Box} {n : Nat} {x : LB} (k : K) (h : boxLoop bs n = some x := by rfl) : AsgP bs n x K := ⟨h, k⟩
theorem mBb {e : List (Nat × AV)} {bs : List Box} {lo : Nat} {ik jk : IntKind} {n m : Int} {K : AV → St → Prop} (h : K (.bsl bs.length n.toNat m.toNat) ⟨e, bs ++ [rowF AV.bool 1 m.toNat (List.replicate n.toNat false)], lo⟩) (hn : 0 ≤ n ∧ n ≤ m ∧ m ≤ 4294967296 := by first | omega | assumption) : MkN 1 (.bool false) ⟨e, bs, lo⟩ (.int ik n) (.int jk m) K := .row plainB false hn h
theorem eLb {e : List (Nat × AV)} {bs : List Box} {lo b k i : Nat} {l : List Bool} {x : Bool} {K : AV → Prop} (h : K (.bool x)) (hb : bs[b]? = some (rowF AV.bool 1 k l) := by first | rfl | assumption) (hx : l[i]? = some x := by assumption) : ElN false 1 ⟨e, bs, lo⟩ (.elp b i 1 0) K := .one (f := AV.bool) (fun _ => ⟨rfl, rfl⟩) hb hx h
theorem eSb {e : List (Nat × AV)} {bs : List Box} {lo b k i : Nat} {l : List Bool} {x y : Bool} {K : St → Prop} (h : K ⟨e, bs.set b (rowF AV.bool 1 k (l.set i y)), lo⟩) (hb : bs[b]? = some (rowF AV.bool 1 k l) := by first | rfl | assumption) (hx : l[i]? = some x := by assumption) : EsN 1 ⟨e, bs, lo⟩ b i 1 0 (.bool y) K := .one (f := AV.bool) (fun _ => ⟨rfl, rfl⟩) hb hx h
theorem mS {v : AV} {xs : List Int} {n : Int} {ok : Bool} {z : AV} {K : AV → Prop} (h1 : n ∈ xs → K (okR ok v true)) (h2 : n ∉ xs → K (okR ok z false)) (hv : mapOk v = true := by rfl) : MapN (msOf v xs) n ok z K := .set hv h1 h2
theorem mA {bs : List Box} {b : Nat} {K : List (Int × AV) → Prop} {l : List (Int × AV)} (k : K l) (h : bs[b]? = some (.mp l) := by first | rfl | assumption) : MpAt bs b K := ⟨l, h, k⟩
theorem vE {x y : AV} (k : K) (h : x = y := by with_reducible rfl) : WkN x y K := .eq h k
theorem vI {i : IntKind} {x y : Int} (k : K) (h : x = y := by omega) : WkN (.int i x) (.int i y) K := .int h k
theorem vB {x y : Bool} (k : K) (h : x = y := by assumption) : WkN (.bool x) (.bool y) K := .bool h k
theorem vD {z : Nat} {l m : List AV} (e : l = m) (k : K) (h : Szs z l := by (repeat' (first | assumption | exact Szs.nil | exact Szs.tm | refine Szs.app ?_ ?_ | refine Szs.cons rfl ?_ | exact Szs.map (fun _ => rfl) | exact Szs.rep rfl | refine Szs.take ?_ _ | refine Szs.drop ?_ _ | refine Szs.set ?_ rfl _)); done) : WkN (.sl .full l) (.sl (.own z) m) K := .claim h e k
theorem xB (k : K) (h : p := by with_reducible rfl) : BxN p K := ⟨h, k⟩
theorem gC {b : Bool} {A B : Prop} (h : CondN b A B) : CondN b A B := h
theorem gD {p : Prop} [Decidable p] {A B : Prop} (h : CondN (decide p) A B) : CondN (decide p) A B := h
theorem gN {p K : Prop} (h : NeedN p K) : NeedN p K := h
theorem gW {i : IntKind} {n : Int} {K : Int → Prop} (h : WrapN i n K) : WrapN i n K := h
theorem gL {l : List AV} {K : Int → Prop} (h : LenN l K) : LenN l K := h
theorem gI {sz : Nat} {l : List AV} {n : Int} {K : AV → Prop} (h : IdxN sz l n K) : IdxN sz l n K := h
theorem gT {l : List Tm} {n : Int} {K : AV → Prop} (h : IdxN 4 (l.map Tm.av) n K) : IdxN 4 (l.map Tm.av) n K := h
theorem gM {α : Type} {f : α → AV} {sz : Nat} {l : List α} {n : Int} {K : AV → Prop} (h : IdxN sz (l.map f) n K) : IdxN sz (l.map f) n K := h
theorem gH {P : Program} {f : FuncId} {K : Prop} (h : HasN P f K) : HasN P f K := h
theorem gA {bs : List Box} {n : Nat} {x : LB} {K : Prop} (h : AsgP bs n x K) : AsgP bs n x K := h
theorem gB {bs : List Box} {n : Nat} {K : List AV → Prop} (h : BxAt bs n K) : BxAt bs n K := h
theorem gMp {bs : List Box} {b : Nat} {K : List (Int × AV) → Prop} (h : MpAt bs b K) : MpAt bs b K := h
theorem gE {g : Bool} {n : Nat} {s : St} {p : AV} {K : AV → Prop} (h : ElN g n s p K) : ElN g n s p K := h
theorem gS {n : Nat} {s : St} {b i z off : Nat} {v : AV} {K : St → Prop} (h : EsN n s b i z off v K) : EsN n s b i z off v K := h
theorem gMk {z : Nat} {zx : AV} {s : St} {l c : AV} {K : AV → St → Prop} (h : MkN z zx s l c K) : MkN z zx s l c K := h
theorem gMs {l : List (Int × AV)} {n : Int} {ok : Bool} {z : AV} {K : AV → Prop} (h : MapN l n ok z K) : MapN l n ok z K := h
theorem gF {P : Program} {f : FuncId} {vals raw : List AV} {bs : List Box} {K : AV → List Box → Prop} (h : CallN P f vals raw bs K) : CallN P f vals raw bs K := h
theorem gG {P : Program} {f : FuncId} {vals : List AV} {K : AV → Prop} (h : CallP P f vals K) : CallP P f vals K := h
theorem gV {x y : AV} {K : Prop} (h : WkN x y K) : WkN x y K := h
theorem gK {z : Nat} {l m : List AV} {K : Prop} (h : WkN (.sl .full l) (.sl (.own z) m) K) : WkN (.sl .full l) (.sl (.own z) m) K := h
theorem gX {p K : Prop} (h : BxN p K) : BxN p K := h
/-- a call by a contract that says what comes and what the boxes are then -/
theorem CallN.to {P : Program} {f : FuncId} {vals raw : List AV} {bs bs2 : List Box} {v : AV} {K : AV → List Box → Prop} (h : Sem P f raw bs fun r bs' => r = v ∧ bs' = bs2) (hK : K v bs2) : CallN P f vals raw bs K := .raw h fun r bs' ⟨e1, e2⟩ => by subst e1 e2; exact hK
/-- as rfl, or by the rules for boxes -/
theorem bLtMp {n : Nat} {l : List (Int × AV)} {r : List Box} (k : boxesLt n r = true) : boxesLt n (.mp l :: r) = true := by simp only [boxesLt, k]
theorem bLtDead {n : Nat} {r : List Box} (k : boxesLt n r = true) : boxesLt n (.dead :: r) = true := by simp only [boxesLt, k]
end Go.AM

set_option linter.unusedSimpArgs false
set_option linter.unusedVariables false
namespace Go.AM
open Go.CK Go.RowKit

/-- the boxes own, cell i of box c0 being x -/
def putC (own : List Box) (c0 i : Nat) (ds0 : List AV) (x : AV) : List Box := own.set c0 (.cells (ds0.set i x))
/-- boxes of no use ahead of a row, the last, whose slice lies in a box: the row takes their place -/
theorem Weak.gcB {env : List (Nat × AV)} {own J : List Box} {cs ds0 : List AV} {lo c0 i m k : Nat} (hc0 : own[c0]? = some (.cells ds0)) (hi : i < ds0.length) (hlo : lo ≤ own.length) (he : ∀ u x, envGet env u = some x → x.lt own.length = true) (ho : boxesLt own.length own = true) (hd : ∀ x ∈ cs, x.deown = x ∧ x.lt own.length = true) :
    Weak ⟨env, putC own c0 i ds0 (.bsl (own.length + J.length) m k) ++ (J ++ [.row cs]), lo⟩ ⟨env, putC own c0 i ds0 (.bsl own.length m k) ++ [.row cs], lo⟩ := fun E G a w hs => by
  have hc1 : boxCells own c0 = some ds0 := by simp only [boxCells, hc0]; rfl
  have hcl : c0 < own.length := boxCells_lt hc1
  have hpl : ∀ x, (putC own c0 i ds0 x).length = own.length := fun x => by simp [putC]
  have hpc : ∀ x c, boxCells (putC own c0 i ds0 x) c = if c = c0 then some (ds0.set i x) else boxCells own c := fun x c => boxCells_set hc1 _ c
  obtain ⟨B1, hB1⟩ : ∃ B1, B1 = putC own c0 i ds0 (.bsl (own.length + J.length) m k) := ⟨_, rfl⟩
  obtain ⟨B2, hB2⟩ : ∃ B2, B2 = putC own c0 i ds0 (.bsl own.length m k) := ⟨_, rfl⟩
  have hl1 : B1.length = own.length := by rw [hB1]; exact hpl _
  have hl2 : B2.length = own.length := by rw [hB2]; exact hpl _
  have hp1 : ∀ c, boxCells B1 c = if c = c0 then some (ds0.set i (.bsl (own.length + J.length) m k)) else boxCells own c := by rw [hB1]; exact hpc _
  have hp2 : ∀ c, boxCells B2 c = if c = c0 then some (ds0.set i (.bsl own.length m k)) else boxCells own c := by rw [hB2]; exact hpc _
  rw [← hB1] at hs
  rw [← hB2]
  have hb1 : ∀ c ds, boxCells (B2 ++ [.row cs]) c = some ds → (c = own.length ∧ ds = cs ∧ cs ≠ []) ∨ (c < own.length ∧ boxCells B2 c = some ds) := fun c ds h => by
    rw [boxCells_append, hl2] at h
    split at h
    · rename_i e
      rw [row_cs] at h
      split at h
      · cases h
      · rename_i h1
        cases h; exact .inl ⟨e, rfl, h1⟩
    · exact .inr ⟨hl2 ▸ boxCells_lt h, h⟩
  have hb2 : ∀ c, c < own.length → boxCells (B1 ++ (J ++ [.row cs])) c = boxCells B1 c := fun c hc => by simp only [boxCells, List.getElem?_append_left (show c < B1.length by omega)]
  have hb3 : cs ≠ [] → boxCells (B1 ++ (J ++ [.row cs])) (own.length + J.length) = some cs := fun h => by
    rw [← hl1]
    simp [boxCells, row_cs, h]
  have hlb : ∀ c x, boxLoop B2 c = some x → boxLoop B1 c = some x := fun c x h => by
    rw [hB2] at h
    rw [hB1]
    simp only [boxLoop, putC, List.getElem?_set] at h ⊢
    by_cases e : c0 = c
    · simp [e, Box.lb?] at h
      split at h <;> first | (cases h; done) | (rename_i q; split at q <;> simp at q; subst q; cases h)
    · rw [if_neg e] at h ⊢; exact h
  have hlp1 : ∀ c x, boxLoop (B2 ++ [.row cs]) c = some x → boxLoop B1 c = some x := fun c x h => hlb c x (boxLoop_append rfl h)
  have hlp2 : ∀ c x, boxLoop B1 c = some x → boxLoop (B1 ++ (J ++ [.row cs])) c = some x := fun c x h => by
    simp only [boxLoop, List.getElem?_append_left (boxLoop_lt h)]; exact h
  have hlen : (B1 ++ (J ++ [Box.row cs])).length = own.length + J.length + 1 := by simp [hl1]; omega
  have hlen' : (B2 ++ [Box.row cs]).length = own.length + 1 := by simp [hl2]
  obtain ⟨f, hf⟩ : ∃ f : Nat → Nat, f = fun c => if c = own.length then own.length + J.length else c := ⟨_, rfl⟩
  obtain ⟨σ', hσ'⟩ : ∃ σ' : Nat → Nat, σ' = fun c => G.σ (f c) := ⟨_, rfl⟩
  have hfl : ∀ c, c < own.length → f c = c := fun c hc => by rw [hf]; simp only; rw [if_neg (by omega)]
  have hfb : f own.length = own.length + J.length := by rw [hf]; simp
  have hσl : ∀ c, c < own.length → σ' c = G.σ c := fun c hc => by rw [hσ']; simp only; rw [hfl c hc]
  have hbox : ∀ c ds, boxCells (B2 ++ [.row cs]) c = some ds → (∃ ds1, boxCells (B1 ++ (J ++ [.row cs])) (f c) = some ds1 ∧ ds.length ≤ ds1.length ∧ ∀ (j : Nat) (x : AV), ds[j]? = some x → (c = c0 ∧ j = i ∧ x = .bsl own.length m k ∧ ds1[j]? = some (.bsl (own.length + J.length) m k)) ∨ (ds1[j]? = some x ∧ ¬ (c = c0 ∧ j = i) ∧ x.deown.lt own.length = true ∧ ((c = own.length ∧ x.deown = x) ∨ f c = c))) ∧ σ' c = G.σ (f c) := fun c ds h => by
    refine ⟨?_, by rw [hσ']⟩
    rcases hb1 c ds h with ⟨rfl, rfl, h1⟩ | ⟨h1, h2⟩
    · refine ⟨ds, by rw [hfb]; exact hb3 h1, Nat.le_refl _, fun j x hx => .inr ⟨hx, fun e => by omega, ?_, .inl ⟨rfl, (hd x (List.mem_of_getElem? hx)).1⟩⟩⟩
      obtain ⟨q1, q2⟩ := hd x (List.mem_of_getElem? hx)
      rw [q1]; exact q2
    · rw [hfl c h1, hb2 c h1, hp1]
      rw [hp2] at h2
      by_cases e : c = c0
      · rw [if_pos e] at h2 ⊢
        cases h2
        refine ⟨_, rfl, by simp, fun j x hx => ?_⟩
        rw [List.getElem?_set] at hx
        by_cases e2 : i = j
        · subst e2
          rw [if_pos rfl, if_pos hi] at hx
          cases hx
          exact .inl ⟨e, rfl, rfl, by simp [hi]⟩
        · rw [if_neg e2] at hx
          refine .inr ⟨by rw [List.getElem?_set, if_neg e2]; exact hx, fun q => e2 q.2.symm, ?_, .inr rfl⟩
          rw [lt_deown]; exact boxesLt_get ho hc1 hx
      · rw [if_neg e] at h2 ⊢
        refine ⟨ds, h2, Nat.le_refl _, fun j x hx => .inr ⟨hx, fun q => e q.1, ?_, .inr rfl⟩⟩
        rw [lt_deown]; exact boxesLt_get ho h2 hx
  have hinj : ∀ c c' ds ds', boxCells (B2 ++ [.row cs]) c = some ds → boxCells (B2 ++ [.row cs]) c' = some ds' → f c = f c' → c = c' := fun c c' ds ds' h h' e => by
    rcases hb1 c ds h with ⟨rfl, _, _⟩ | ⟨h1, _⟩ <;> rcases hb1 c' ds' h' with ⟨rfl, _, _⟩ | ⟨h2, _⟩
    · rfl
    · rw [hfb, hfl c' h2] at e; omega
    · rw [hfl c h1, hfb] at e; omega
    · rw [hfl c h1, hfl c' h2] at e; exact e
  have hmono : ∀ x v, x.lt own.length = true → RV G.M G.σ (B1 ++ (J ++ [Box.row cs])).length x v → RV G.M σ' (B2 ++ [Box.row cs]).length x v := fun x v hx h =>
    (h.lt hx).mono (Hp.le_refl _) (by rw [hlen']; omega) hσl
  have hat : ∀ p x, (⟨env, B2 ++ [.row cs], lo⟩ : St).at p = some x → (p = .bx c0 i ∧ x = .bsl own.length m k ∧ (⟨env, B1 ++ (J ++ [.row cs]), lo⟩ : St).at (.bx c0 i) = some (.bsl (own.length + J.length) m k)) ∨ (∃ u, p = .sl u ∧ envGet env u = some x) ∨ ∃ c j, p = .bx c j ∧ (⟨env, B1 ++ (J ++ [.row cs]), lo⟩ : St).at (.bx (f c) j) = some x ∧ σ' c = G.σ (f c) ∧ x.deown.lt own.length = true ∧ ((c = own.length ∧ x.deown = x) ∨ f c = c) := fun p x hp => by
    cases p with
    | sl u => exact .inr (.inl ⟨u, rfl, hp⟩)
    | bx c j =>
      simp only [St.at] at hp
      cases hc : boxCells (B2 ++ [.row cs]) c with
      | none => rw [hc] at hp; cases hp
      | some ds =>
        rw [hc] at hp
        simp only [Option.bind_some] at hp
        obtain ⟨⟨ds1, h1, _, h3⟩, h2⟩ := hbox c ds hc
        rcases h3 j x hp with ⟨rfl, rfl, rfl, h4⟩ | ⟨h4, _, h5, h6⟩
        · refine .inl ⟨rfl, rfl, ?_⟩
          rw [hfl _ hcl] at h1
          simp only [St.at, h1, Option.bind_some]; exact h4
        · exact .inr (.inr ⟨c, j, rfl, by simp only [St.at, h1, Option.bind_some]; exact h4, h2, h5, h6⟩)
  have hva : ∀ c j, σ' c = G.σ (f c) → valAt σ' a w (.bx c j) = valAt G.σ a w (.bx (f c) j) := fun c j e => by simp only [valAt, e]
  have hv0 : valAt σ' a w (.bx c0 i) = valAt G.σ a w (.bx c0 i) := by simp only [valAt, hσl _ hcl]
  refine ⟨{ G with σ := σ' }, hs.fr, hs.ok, hs.nt, fun p x hp => ?_, fun c j x hp => ?_, fun c ds hc => ?_, fun c ds hc => ?_, fun c c' ds ds' hc hc' e => ?_, fun p z l hp => ?_, hs.clinj, fun p B hB c ds hc => ?_, hs.cllt, hs.lo, ?_, fun c hc => ?_, ?_⟩
  · rcases hat p x hp with ⟨rfl, rfl, hx⟩ | ⟨u, rfl, hx⟩ | ⟨c, j, rfl, hx, e, hlt, _⟩
    · have hv := hs.val _ _ hx
      obtain ⟨ad, h1, _, h3, h4, h5⟩ := hv.inv_bsl
      show RV G.M σ' _ _ (valAt σ' a w (.bx c0 i))
      rw [hv0, h1]
      refine .bsl _ _ _ _ (by simp [hl2]) h3 h4 fun hk => ?_
      rw [h5 hk, hσ']
      simp only [hfb]
    · have hv := hs.val (.sl u) x (show (⟨env, B1 ++ (J ++ [.row cs]), lo⟩ : St).at (.sl u) = some _ from hx)
      exact hmono _ _ (by rw [lt_deown]; exact he u x hx) hv
    · show RV G.M σ' _ _ (valAt σ' a w (.bx c j))
      rw [hva c j e]
      exact hmono _ _ hlt (hs.val _ x hx)
  · rcases hat _ x hp with ⟨e, _, hx⟩ | ⟨u, e, _⟩ | ⟨c', j', e, hx, e2, _, _⟩
    · cases e
      show (valAt σ' a w (.bx c0 i)).oneCell' = true
      rw [hv0]; exact hs.one _ _ _ hx
    · cases e
    · cases e
      show (valAt σ' a w (.bx c j)).oneCell' = true
      rw [hva c j e2]; exact hs.one _ _ _ hx
  · obtain ⟨⟨ds1, h1, h3, _⟩, h2⟩ := hbox c ds hc
    show ∃ vs T, w.heap[σ' c]? = _ ∧ _
    rw [h2]
    obtain ⟨vs, T, q1, q2⟩ := hs.box _ ds1 h1
    exact ⟨vs, T, q1, Nat.le_trans h3 q2⟩
  · obtain ⟨⟨ds1, h1, _, _⟩, h2⟩ := hbox c ds hc
    show (∀ o, G.M (σ' c) o = none) ∧ (E.FP (σ' c) ∨ E.w.heap.size ≤ σ' c)
    rw [h2]; exact hs.bmem _ ds1 h1
  · obtain ⟨⟨ds1, h1, _, _⟩, h2⟩ := hbox c ds hc
    obtain ⟨⟨ds1', h1', _, _⟩, h2'⟩ := hbox c' ds' hc'
    have e : σ' c = σ' c' := e
    rw [h2, h2'] at e
    exact hinj c c' ds ds' hc hc' (hs.inj _ _ ds1 ds1' h1 h1' e)
  · rcases hat p _ hp with ⟨_, e, _⟩ | ⟨u, rfl, hx⟩ | ⟨c, j, rfl, hx, e, _, hc⟩
    · cases e
    · exact hs.own (.sl u) z l hx
    · rcases hc with ⟨_, hc⟩ | hc
      · simp [AV.deown] at hc
      · show ∃ ad k, valAt σ' a w (.bx c j) = _ ∧ _
        rw [hva c j e, hc]
        rw [hc] at hx
        exact hs.own _ z l hx
  · obtain ⟨⟨ds1, h1, _, _⟩, h2⟩ := hbox c ds hc
    show σ' c ≠ B
    rw [h2]; exact hs.clbox p B hB _ ds1 h1
  · show E.nb ≤ (B2 ++ [Box.row cs]).length
    have : lo = E.nb := hs.lo
    rw [hlen']; omega
  · have : lo = E.nb := hs.lo
    show σ' c = _
    rw [hσl c (by omega)]; exact hs.sig c hc
  · exact ((hs.sp.loops (bs' := B1) hlp2).step (Hp.le_refl _) (fun c hc => hσl c (hl1 ▸ hc)) (fun c x h => hlp1 c x h) (fun _ _ k _ => k) (fun _ _ _ _ p k => ⟨p, k⟩) (fun _ k => k))
theorem EndN.gcB {α : Type} {f : α → AV} {z : Nat} (hp : Plain f z) (own J : List Box) (c0 i : Nat) (ds0 : List AV) {s s' : St} {l : List α} {m k k' : Nat} (hb : s.bs = putC own c0 i ds0 (.bsl (own.length + J.length) m k) ++ (J ++ [rowF f z k' l])) (hc0 : own[c0]? = some (.cells ds0)) (hi : Nat.blt i ds0.length = true) (hlo : Nat.ble s.lo own.length = true) (he : envLt own.length s.env = true) (ho : boxesLt own.length own = true)
    (h : EndN ⟨s.env, putC own c0 i ds0 (.bsl own.length m k) ++ [rowF f z k' l], s.lo⟩ s') : EndN s s' := by
  obtain ⟨env, bs, lo⟩ := s
  simp only at hb
  subst hb
  exact ⟨(Weak.gcB hc0 (Nat.le_of_ble_eq_true hi) (Nat.le_of_ble_eq_true hlo) (fun u x hu => envLt_get he hu) ho fun x hx => hp.rowOk l _ _ x hx).trans h.out⟩
/-- no elements, at any place: a row without any -/
theorem Weak.toRowAt (s : St) (q : Pl) (h0 : s.at q = some (.sl .full [])) (h1 : (⟨s.env, s.bs ++ [.row []], s.lo⟩ : St).at q = some (.sl .full [])) : Weak s ((⟨s.env, s.bs ++ [.row []], s.lo⟩ : St).upd q (.bsl s.bs.length 0 0)) := fun E G a w hs => by
  have h2 := hs.rowNil
  have hv := h2.val _ _ h1
  simp only [AV.deown] at hv
  refine ⟨G, h2.upd (q := q) h1 ?_⟩
  obtain ⟨ad, kk, B, off, sz', e1, _, _, _, e2, _⟩ := hv.inv_sl
  have := e2 rfl
  subst this
  rw [e1]
  exact .bsl _ _ _ _ (by simp) (Nat.le_refl _) (Nat.zero_le _) (fun h => absurd rfl h)
theorem EndN.toRowAt {s t : St} (q : Pl) (h0 : s.at q = some (.sl .full [])) (h1 : (⟨s.env, s.bs ++ [.row []], s.lo⟩ : St).at q = some (.sl .full [])) (h : EndN ((⟨s.env, s.bs ++ [.row []], s.lo⟩ : St).upd q (.bsl s.bs.length 0 0)) t) : EndN s t := ⟨(Weak.toRowAt s q h0 h1).trans h.out⟩
end Go.AM

namespace Go.CK
/-- where the first is for which p holds; the length: none -/
def firstP {α : Type} (p : α → Bool) : List α → Nat
  | [] => 0
  | x :: r => if p x then 0 else firstP p r + 1
theorem firstP_eq {α : Type} {p : α → Bool} : ∀ {l : List α} {k : Nat}, (∀ i x, i < k → l[i]? = some x → p x = false) → k ≤ l.length → (∀ x, l[k]? = some x → p x = true) → firstP p l = k
  | [], k, _, h2, _ => by simp only [List.length_nil, Nat.le_zero] at h2; subst h2; rfl
  | x :: r, 0, _, _, h3 => by rw [firstP, if_pos (h3 x rfl)]
  | x :: r, k + 1, h1, h2, h3 => by
    rw [firstP, if_neg (by rw [h1 0 x (by omega) rfl]; decide), firstP_eq (k := k) (fun i y hi hy => h1 (i + 1) y (by omega) (by simpa using hy)) (by simpa using h2) (fun y hy => h3 y (by simpa using hy))]
theorem firstP_lt {α : Type} {p : α → Bool} : ∀ {l : List α}, firstP p l < l.length ↔ ∃ x ∈ l, p x = true
  | [] => by simp [firstP]
  | x :: r => by
    have := firstP_lt (p := p) (l := r)
    rw [firstP]
    split
    · rename_i h
      simp [h]
    · rename_i h
      simp [this, h]
/-- the place, or -1 -/
def findI {α : Type} (p : α → Bool) (l : List α) : Int := if firstP p l < l.length then firstP p l else -1
theorem findI_pos {α : Type} (p : α → Bool) (l : List α) : decide (0 ≤ findI p l) = l.any p := by
  unfold findI
  have h := firstP_lt (p := p) (l := l)
  rw [Bool.eq_iff_iff, List.any_eq_true, decide_eq_true_eq, ← h]
  split <;> rename_i h2
  · exact ⟨fun _ => h2, fun _ => by omega⟩
  · exact ⟨fun h => absurd h (by decide), fun h => absurd h h2⟩
theorem findI_at {α : Type} {p : α → Bool} {l : List α} {j : Nat} {x : α} (h1 : ∀ i x, i < j → l[i]? = some x → p x = false) (hx : l[j]? = some x) (h : p x = true) : findI p l = j := by
  have hj := (List.getElem?_eq_some_iff.1 hx).1
  have := firstP_eq h1 (Nat.le_of_lt hj) (fun y hy => by rw [hx] at hy; cases hy; exact h)
  rw [findI, this, if_pos hj]
theorem findI_no {α : Type} {p : α → Bool} {l : List α} (h1 : ∀ i x, i < l.length → l[i]? = some x → p x = false) : findI p l = -1 := by
  have := firstP_eq h1 (Nat.le_refl _) (fun y hy => by rw [List.getElem?_eq_none (Nat.le_refl _)] at hy; cases hy)
  rw [findI, this, if_neg (Nat.lt_irrefl _)]
theorem no_succ {α : Type} {p : α → Bool} {l : List α} {j : Nat} {x : α} (h1 : ∀ i x, i < j → l[i]? = some x → p x = false) (hx : l[j]? = some x) (h : p x = false) : ∀ i x, i < j + 1 → l[i]? = some x → p x = false := fun i y hi hy => by
  by_cases e : i = j
  · subst e; rw [hx] at hy; cases hy; exact h
  · exact h1 i y (by omega) hy
theorem no_zero {α : Type} {p : α → Bool} {l : List α} : ∀ i x, i < 0 → l[i]? = some x → p x = false := fun i _ hi => by omega
theorem any_no {α : Type} {p : α → Bool} {l : List α} (h1 : ∀ i x, i < l.length → l[i]? = some x → p x = false) : l.any p = false := by
  rw [List.any_eq_false]
  intro x hx
  obtain ⟨i, hi, rfl⟩ := List.getElem_of_mem hx
  rw [h1 i _ hi (List.getElem?_eq_getElem hi)]; decide
theorem any_at {α : Type} {p : α → Bool} {l : List α} {j : Nat} {x : α} (hx : l[j]? = some x) (h : p x = true) : l.any p = true := List.any_eq_true.2 ⟨x, List.mem_of_getElem? hx, h⟩
theorem all_no {α : Type} {p : α → Bool} {l : List α} {j : Nat} {x : α} (hx : l[j]? = some x) (h : p x = false) : l.all p = false := List.all_eq_false.2 ⟨x, List.mem_of_getElem? hx, by rw [h]; decide⟩
theorem all_yes {α : Type} {p : α → Bool} {l : List α} (h1 : ∀ i x, i < l.length → l[i]? = some x → p x = true) : l.all p = true := by
  rw [List.all_eq_true]
  intro x hx
  obtain ⟨i, hi, rfl⟩ := List.getElem_of_mem hx
  exact h1 i _ hi (List.getElem?_eq_getElem hi)
theorem yes_succ {α : Type} {p : α → Prop} {l : List α} {j : Nat} {x : α} (h1 : ∀ i x, i < j → l[i]? = some x → p x) (hx : l[j]? = some x) (h : p x) : ∀ i x, i < j + 1 → l[i]? = some x → p x := fun i y hi hy => by
  by_cases e : i = j
  · subst e; rw [hx] at hy; cases hy; exact h
  · exact h1 i y (by omega) hy

def cmpI (x y : Int) : Int := if x < y then -1 else if y < x then 1 else 0
def cmpS (x y : ByteArray) : Int := if Op.bytesLess x.toList y.toList = true then -1 else if x = y then 0 else 1
def orI (a b : Int) : Int := if a = 0 then b else a
def rankI (k : Int) : Int := if k = 1 then 0 else if k = 0 then 1 else if k = 2 then 2 else 3
mutual
def Tm.cmp : Tm → Tm → Int
  | .mk k n s l, b =>
    orI (cmpI (rankI k) (rankI b.kind)) (if rankI k = 0 ∨ rankI k = 1 then cmpI n b.num else if rankI k = 2 then orI (cmpI l.length b.args.length) (orI (cmpS s b.name) (Tm.cmps l b.args)) else orI (cmpI k b.kind) (orI (cmpI n b.num) (cmpS s b.name)))
def Tm.cmps : List Tm → List Tm → Int
  | [], m => cmpI 0 m.length
  | x :: l, m => match m with
    | [] => 1
    | y :: m => orI (Tm.cmp x y) (Tm.cmps l m)
end
mutual
def Tm.wgh : Tm → Int → Int → Int
  | .mk _ _ s l, left, deep => if deep - 1 = 0 ∨ left - 1 - (s.size : Int).tdiv 8 < l.length then -1 else Tm.wghs l (left - 1 - (s.size : Int).tdiv 8) (deep - 1)
def Tm.wghs : List Tm → Int → Int → Int
  | [], left, _ => left
  | t :: r, left, deep => if left < 0 then left else Tm.wghs r (Tm.wgh t left deep) deep
end
/-- what is left behind a list of terms -/
def weighI (l : List Tm) (left deep : Int) : Int := if deep = 0 ∨ left < l.length then -1 else Tm.wghs l left deep
theorem Tm.wgh_eq (t : Tm) (left deep : Int) : t.wgh left deep = weighI t.args (left - 1 - (t.name.size : Int).tdiv 8) (deep - 1) := by
  obtain ⟨k, n, s, l⟩ := t
  rw [Tm.wgh]; rfl
theorem tdiv8 (n : Nat) : (n : Int).tdiv 8 = ((n / 8 : Nat) : Int) := by rw [Int.tdiv_eq_ediv_of_nonneg (by omega)]; rfl
theorem wghs_step {l : List Tm} {j : Nat} {x : Tm} (hx : l[j]? = some x) {left : Int} (h : 0 ≤ left) (deep : Int) : Tm.wghs (l.drop j) left deep = Tm.wghs (l.drop (j + 1)) (x.wgh left deep) deep := by
  obtain ⟨h1, rfl⟩ := List.getElem?_eq_some_iff.1 hx
  rw [List.drop_eq_getElem_cons h1, Tm.wghs, if_neg (by omega)]
theorem wghs_neg (l : List Tm) {left : Int} (h : left < 0) (deep : Int) : Tm.wghs l left deep = left := by
  cases l with
  | nil => rfl
  | cons t r => rw [Tm.wghs, if_pos h]
theorem weigh_le (t : Tm) : ∀ left deep : Int, -1 ≤ weighI t.args left deep ∧ weighI t.args left deep ≤ max left (-1) := by
  induction t using Tm.ind_all with
  | h k n s l ih =>
    have hl : ∀ r : List Tm, (∀ t ∈ r, t ∈ l) → ∀ left deep : Int, -1 ≤ left → -1 ≤ Tm.wghs r left deep ∧ Tm.wghs r left deep ≤ left := fun r => by
      induction r with
      | nil => intro _ left deep h; simp only [Tm.wghs]; omega
      | cons t r ihr =>
        intro hm left deep h
        have h1 := ih t (hm t (by simp)) (left - 1 - (t.name.size : Int).tdiv 8) (deep - 1)
        rw [← Tm.wgh_eq, tdiv8] at h1
        simp only [Tm.wghs]
        split
        · omega
        · have h2 := ihr (fun x hx => hm x (by simp [hx])) (t.wgh left deep) deep h1.1
          omega
    intro left deep
    show -1 ≤ weighI l left deep ∧ weighI l left deep ≤ max left (-1)
    by_cases hc : deep = 0 ∨ left < l.length
    · rw [weighI, if_pos hc]; omega
    · rw [weighI, if_neg hc]
      have := hl l (fun _ h => h) left deep (by omega)
      omega
theorem wgh_le (t : Tm) (left deep : Int) (h : -1 ≤ left) : -1 ≤ t.wgh left deep ∧ t.wgh left deep ≤ left := by
  have := weigh_le t (left - 1 - (t.name.size : Int).tdiv 8) (deep - 1)
  rw [← Tm.wgh_eq, tdiv8] at this
  omega
end Go.CK

namespace Go.Proofs
open Go.Shelf
def Tryz.laysSort_ren : Go.Shelf.Ren := ⟨fun | 189 => 58 | 125 => 80 | 257 => 79 | 128 => 96 | 129 => 97 | 294 => 87 | 295 => 88 | 296 => 89 | 297 => 90 | 298 => 91 | 299 => 92 | 216 => 93 | 300 => 94 | 301 => 95 | 328 => 102 | 329 => 103 | 330 => 104 | 331 => 105 | 332 => 106 | 215 => 107 | 343 => 109 | n => n, fun | 28 => 34 | 3 => 3 | 46 => 125 | 0 => 0 | 51 => 139 | 53 => 141 | 4 => 4 | 183 => 132 | 182 => 131 | 131 => 103 | 5 => 5 | 9 => 9 | 218 => 144 | 222 => 148 | 228 => 150 | 229 => 151 | n => n, fun | n => n⟩
theorem Tryz.laysSort : Go.Proofs.Lays.n189 Tryz.prog Tryz.laysSort_ren := {
  mixed := by kernel_rfl,
  f125 := Tryz.func80.trans (congrArg some (by kernel_rfl)),
  f128 := Tryz.func96.trans (congrArg some (by kernel_rfl)),
  f129 := Tryz.func97.trans (congrArg some (by kernel_rfl)),
  f189 := Tryz.func58.trans (congrArg some (by kernel_rfl)),
  f215 := Tryz.func107.trans (congrArg some (by kernel_rfl)),
  f216 := Tryz.func93.trans (congrArg some (by kernel_rfl)),
  f257 := Tryz.func79.trans (congrArg some (by kernel_rfl)),
  f294 := Tryz.func87.trans (congrArg some (by kernel_rfl)),
  f295 := Tryz.func88.trans (congrArg some (by kernel_rfl)),
  f296 := Tryz.func89.trans (congrArg some (by kernel_rfl)),
  f297 := Tryz.func90.trans (congrArg some (by kernel_rfl)),
  f298 := Tryz.func91.trans (congrArg some (by kernel_rfl)),
  f299 := Tryz.func92.trans (congrArg some (by kernel_rfl)),
  f300 := Tryz.func94.trans (congrArg some (by kernel_rfl)),
  f301 := Tryz.func95.trans (congrArg some (by kernel_rfl)),
  f328 := Tryz.func102.trans (congrArg some (by kernel_rfl)),
  f329 := Tryz.func103.trans (congrArg some (by kernel_rfl)),
  f330 := Tryz.func104.trans (congrArg some (by kernel_rfl)),
  f331 := Tryz.func105.trans (congrArg some (by kernel_rfl)),
  f332 := Tryz.func106.trans (congrArg some (by kernel_rfl)),
  f343 := Tryz.func109.trans (congrArg some (by kernel_rfl)),
  t0 := Tryz.underlying0,
  a0 := Tryz.isAgg0,
  z0 := Tryz.sizeOf0,
  v0 := Tryz.zeroValue0,
  t3 := Tryz.underlying3,
  a3 := Tryz.isAgg3,
  z3 := Tryz.sizeOf3,
  v3 := Tryz.zeroValue3,
  t4 := Tryz.underlying4,
  a4 := Tryz.isAgg4,
  z4 := Tryz.sizeOf4,
  v4 := Tryz.zeroValue4,
  t5 := Tryz.underlying5,
  a5 := Tryz.isAgg5,
  z5 := Tryz.sizeOf5,
  v5 := Tryz.zeroValue5,
  t9 := Tryz.underlying9,
  a9 := Tryz.isAgg9,
  z9 := Tryz.sizeOf9,
  v9 := Tryz.zeroValue9,
  t28 := Tryz.underlying34,
  a28 := Tryz.isAgg34,
  z28 := Tryz.sizeOf34,
  v28 := Tryz.zeroValue34,
  t46 := Tryz.underlying125,
  a46 := Tryz.isAgg125,
  z46 := Tryz.sizeOf125,
  v46 := Tryz.zeroValue125,
  t51 := Tryz.underlying139,
  a51 := Tryz.isAgg139,
  z51 := Tryz.sizeOf139,
  v51 := Tryz.zeroValue139,
  t53 := Tryz.underlying141,
  a53 := Tryz.isAgg141,
  z53 := Tryz.sizeOf141,
  v53 := Tryz.zeroValue141,
  t131 := Tryz.underlying103,
  a131 := Tryz.isAgg103,
  z131 := Tryz.sizeOf103,
  v131 := Tryz.zeroValue103,
  t182 := Tryz.underlying131,
  a182 := Tryz.isAgg131,
  z182 := Tryz.sizeOf131,
  v182 := Tryz.zeroValue131,
  t183 := Tryz.underlying132,
  a183 := Tryz.isAgg132,
  z183 := Tryz.sizeOf132,
  v183 := Tryz.zeroValue132,
  t218 := Tryz.underlying144,
  a218 := Tryz.isAgg144,
  z218 := Tryz.sizeOf144,
  v218 := Tryz.zeroValue144,
  t222 := Tryz.underlying148,
  a222 := Tryz.isAgg148,
  z222 := Tryz.sizeOf148,
  v222 := Tryz.zeroValue148,
  t228 := Tryz.underlying150,
  a228 := Tryz.isAgg150,
  z228 := Tryz.sizeOf150,
  v228 := Tryz.zeroValue150,
  t229 := Tryz.underlying151,
  a229 := Tryz.isAgg151,
  z229 := Tryz.sizeOf151,
  v229 := Tryz.zeroValue151 }
end Go.Proofs

namespace Go.Proofs
open Go.RowKit Go.Shelf Go.Sort

attribute [local go_sem] Oper.semAt_some

/-- what has come when k rounds are over -/
def Tryz.upto {α : Type} (f : Nat → α) (k : Nat) : List α := (List.range k).map f
theorem Tryz.upto_succ {α : Type} (f : Nat → α) (k : Nat) : Tryz.upto f (k + 1) = Tryz.upto f k ++ [f k] := by simp [Tryz.upto, List.range_succ]
theorem Tryz.upto_length {α : Type} (f : Nat → α) (k : Nat) : (Tryz.upto f k).length = k := by simp [Tryz.upto]
theorem Tryz.upto_all (zs : List Int) : Tryz.upto (fun j => zs[j]?.getD 0) zs.length = zs := by
  apply List.ext_getElem
  · simp [Tryz.upto]
  · intro i h1 h2
    simp [Tryz.upto, h2]
set_option maxRecDepth 100000 in
set_option maxHeartbeats 2000000 in
theorem Tryz.values1_in (F : Fence) (n : Nat) (h7 : F.fn 59) (hro : F.round = none) (hn : 1 ≤ n) (l Bs Os n₀ b off len cap : Nat) (zs : List Int) (hreach : len * 8 ≤ 140737488351232) (hb : b < n₀) (J Jx : List Int → World → Prop)
    (hY : ∀ pre x W, J pre W → pre.length < len → YieldAt F (n - 1) Tryz.prog l #[.int .i64 x] W fun e W' =>
      (e = .returned (.bool true) ∧ J (pre ++ [x]) W' ∧ Below n₀ W W') ∨ (e = .returned (.bool false) ∧ Jx (pre ++ [x]) W'))
    (W : World) (hBs : W.cell? ⟨Bs, Os, none⟩ = some (.slice (some ⟨b, off, none⟩) len cap)) (hc : ∀ j, j < len → W.cell? ⟨b, off + j, none⟩ = some (.int .i64 (zs[j]?.getD 0))) (h0 : J [] W) :
    CallsIn F n Tryz.prog 59 #[.func (.yield l) #[] #[], .pointer (some ⟨Bs, Os, none⟩)] W fun e W' => (∃ v, e = .returned v) ∧
      ((∃ ys, ys = Tryz.upto (fun j => zs[j]?.getD 0) len ∧ J ys W') ∨ (∃ pre, (∃ k, k ≤ len ∧ pre = Tryz.upto (fun j => zs[j]?.getD 0) k) ∧ Jx pre W')) := by
  refine callsIn_of_wp Tryz.func59 rfl h7 ?_ hro
  simp only [Tryz.ntmps59, List.size_toArray, List.length_cons, List.length_nil, Nat.reduceAdd, Nat.reduceSub, Array.replicate_succ, Array.replicate_zero, List.push_toArray, List.append_toArray, List.nil_append, List.cons_append]
  gi_wp2
  gi_loopw [7] (fun i wr => ∃ k : Nat, k ≤ len ∧ i = .int .i64 k ∧ J (Tryz.upto (fun j => zs[j]?.getD 0) k) wr ∧ Below n₀ W wr)
    (fun i _ => len - (intOf i).toNat)
  case atStart => exact ⟨0, Nat.zero_le _, rfl, h0, Below.refl _ _⟩
  case round =>
    obtain ⟨k, hk, rfl, hJs, hnx⟩ := hrel
    have hcx : k < len → wr.cell? ⟨b, off + k, none⟩ = some (.int .i64 (zs[k]?.getD 0)) := fun h => (hnx.cell (p := ⟨b, off + k, none⟩) hb).trans (hc k h)
    by_cases hlt : k < len
    · obtain ⟨fn, tmps, assign, body, hy, hR⟩ := hY _ (zs[k]?.getD 0) wr hJs (by rw [Tryz.upto_length]; exact hlt)
      have hcx' := hcx hlt
      gi_wp2
      refine hR.mono ?_
      rintro e W3 (⟨rfl, hJ3, hk3⟩ | ⟨rfl, hJx3⟩)
      · gi_wp2
        go_roundw
        case rel => exact ⟨k + 1, by omega, by simp, by rw [Tryz.upto_succ]; exact hJ3, hnx.trans hk3⟩
        case measure => simp [intOf]; omega
      · gi_wp2
        refine bodyPost_ret (results_none rfl _ _ _) rfl ?_
        exact ⟨⟨_, rfl⟩, .inr ⟨_, ⟨k + 1, by omega, (Tryz.upto_succ _ _).symm⟩, hJx3⟩⟩
    · obtain rfl : k = len := by omega
      gi_wp2
      go_end0
      exact ⟨⟨_, rfl⟩, .inl ⟨_, rfl, hJs⟩⟩
theorem Tryz.upto_take (zs : List Int) {k : Nat} (hk : k ≤ zs.length) : Tryz.upto (fun j => zs[j]?.getD 0) k = zs.take k := by
  apply List.ext_getElem
  · simp [Tryz.upto, hk]
  · intro i h1 h2
    have : i < zs.length := by simp [Tryz.upto] at h1; omega
    simp [Tryz.upto, this]
/-- the slice value sv holds the ints zs, in a block below n₀; or there are none -/
def Tryz.Ints (n₀ : Nat) (W : World) (sv : Value) (zs : List Int) : Prop :=
  (∃ p cap, sv = .slice p 0 cap ∧ zs = []) ∨ ∃ b off cap, sv = .slice (some ⟨b, off, none⟩) zs.length cap ∧ b < n₀ ∧ ∀ j, j < zs.length → W.cell? ⟨b, off + j, none⟩ = some (.int .i64 (zs[j]?.getD 0))
theorem Tryz.Ints.below {n₀ : Nat} {A B : World} (h : Below n₀ A B) {sv : Value} {zs : List Int} : Tryz.Ints n₀ A sv zs → Tryz.Ints n₀ B sv zs
  | .inl e => .inl e
  | .inr ⟨b, off, cap, e, hb, hc⟩ => .inr ⟨b, off, cap, e, hb, fun j hj => (h.cell (p := ⟨b, off + j, none⟩) hb).trans (hc j hj)⟩
set_option maxRecDepth 100000 in
set_option maxHeartbeats 1000000 in
theorem Tryz.values1_nil_in (F : Fence) (n : Nat) (h7 : F.fn 59) (hro : F.round = none) (l Bs Os cap : Nat) (p : Option Addr) (J : List Int → World → Prop) (W : World) (hBs : W.cell? ⟨Bs, Os, none⟩ = some (.slice p 0 cap)) (h0 : J [] W) :
    CallsIn F n Tryz.prog 59 #[.func (.yield l) #[] #[], .pointer (some ⟨Bs, Os, none⟩)] W fun e W' => (∃ v, e = .returned v) ∧ J [] W' := by
  refine callsIn_of_wp Tryz.func59 rfl h7 ?_ hro
  simp only [Tryz.ntmps59, List.size_toArray, List.length_cons, List.length_nil, Nat.reduceAdd, Nat.reduceSub, Array.replicate_succ, Array.replicate_zero, List.push_toArray, List.append_toArray, List.nil_append, List.cons_append]
  gi_wp2
  gi_loopw [7] (fun i wr => i = .int .i64 0 ∧ J [] wr) (fun _ _ => 0)
  case atStart => exact ⟨rfl, h0⟩
  case round =>
    obtain ⟨rfl, hJs⟩ := hrel
    gi_wp2
    go_end0
    exact ⟨⟨_, rfl⟩, hJs⟩
theorem Tryz.values_stops (F : Fence) (n : Nat) (h7 : F.fn 59) (hro : F.round = none) (hn : 1 ≤ n) (Bs Os n₀ : Nat) (sv : Value) (zs : List Int) (hreach : zs.length * 8 ≤ 140737488351232) (w : World) (hBs : Bs < w.heap.size) (hn₀ : n₀ ≤ w.heap.size)
    (hc : w.cell? ⟨Bs, Os, none⟩ = some sv) (hI : Tryz.Ints n₀ w sv zs) :
    SeqStopsK F n Tryz.prog 59 #[.pointer (some ⟨Bs, Os, none⟩)] (fun x : Int => #[Value.int .i64 x]) (Below n₀) (fun ys => ys = zs) (fun pre => pre <+: zs) zs.length w := fun l J Jx W hW _ _ hY h0 => by
  have hc' := (hW.cell (p := ⟨Bs, Os, none⟩) hBs).trans hc
  rcases hI.below (hW.mono hn₀) with ⟨p, cap, rfl, rfl⟩ | ⟨b, off, cap, rfl, hb, hcs⟩
  · exact (Tryz.values1_nil_in F n h7 hro l Bs Os cap p J W hc' h0).mono fun e W' ⟨he, hj⟩ => ⟨he, .inl ⟨_, rfl, hj⟩⟩
  · refine (Tryz.values1_in F n h7 hro hn l Bs Os n₀ b off zs.length cap zs hreach hb J Jx hY W hc' hcs h0).mono ?_
    rintro e W' ⟨he, ⟨ys, rfl, hj⟩ | ⟨pre, ⟨k, hk, rfl⟩, hj⟩⟩
    · exact ⟨he, .inl ⟨_, Tryz.upto_all zs, hj⟩⟩
    · exact ⟨he, .inr ⟨_, by rw [Tryz.upto_take zs hk]; exact List.take_prefix _ _, hj⟩⟩
theorem Tryz.infoI : (Tryz.prog.info? 3).map (fun i => (i.zero, i.size, i.bytes)) = some (some (.int .i64 0), 1, 8) := by kernel_rfl
set_option maxRecDepth 100000 in
set_option maxHeartbeats 2000000 in
theorem Tryz.appendSeq_in (F : Fence) (n : Nat) (h3 : F.fn 78) (h5 : F.fn 59) (hro : F.round = none) (hn : 3 ≤ n) (Bs Os : Nat) (sv : Value) (zs : List Int) (hlen : zs.length ≤ maxLen) (hbytes : zs.length * 8 ≤ 140737488351232) (w : World) (hBs : Bs < w.heap.size) (hc : w.cell? ⟨Bs, Os, none⟩ = some sv) (hI : Tryz.Ints w.heap.size w sv zs) :
    CallsIn F n Tryz.prog 78 #[.slice none 0 0, .func (.func 59) #[] #[.pointer (some ⟨Bs, Os, none⟩)]] w fun e W' => ∃ v, e = .returned v ∧ W'.ownsRow w.heap.size 3 1 v zs.length (zs.map (Value.int .i64)) ∧ Below w.heap.size w W' := by
  have h1 : 1 ≤ n := by omega
  obtain ⟨i0, hi, hz0, hz1, hz2⟩ := info_parts Tryz.infoI
  refine callsIn_of_wp_marks Tryz.func78 rfl h3 ?_ hro
  simp only [Tryz.ntmps78, List.size_toArray, List.length_cons, List.length_nil, Nat.reduceAdd, Nat.reduceSub, Array.replicate_succ, Array.replicate_zero, List.push_toArray, List.append_toArray, List.nil_append, List.cons_append]
  gi_wp2
  have bO := Boxed.new w 34 (.slice none 0 0)
  have hB0 : Below w.heap.size w (w.alloc (.cells #[.slice none 0 0] 34)) := (Below.refl _ w).alloc (Nat.le_refl _) _
  refine wpIn_rangeFunc_ownG hro h1 (gf := 59) (lb := #[.pointer (some ⟨Bs, Os, none⟩)]) rfl h5 (enters_of Tryz.func59 (by kernel_rfl) rfl)
    (Tryz.values_stops F (n - 1) h5 hro (by omega) Bs Os w.heap.size sv zs hbytes _ (by simp; omega) (by simp) ((hB0.cell (p := ⟨Bs, Os, none⟩) hBs).trans hc) (hI.below hB0)) belowK_t (belowK_b (by simp)) (Below.refl _ _) (fun _ => rfl)
    (fun pre W => (∃ v, Boxed W w.heap.size 34 v ∧ W.ownsRow w.heap.size 3 1 v pre.length (pre.map (Value.int .i64)) ∧ (v = .slice none 0 0 ↔ pre = [])) ∧ Below w.heap.size w W)
    (fun _ _ _ => False)
    (OwnFrom.and (Own.from (holdsRow_own w.heap.size w.heap.size 34 3 1 (fun pre => pre.length) (fun pre => pre.map (Value.int .i64)) (fun pre v => v = .slice none 0 0 ↔ pre = [])) _) (ownFrom_below (Nat.le_refl _) (by simp)))
    (fun _ _ _ _ _ hs _ _ => hs)
    ⟨⟨_, bO, World.ownsRow_nil _ _ _ _, by simp⟩, hB0⟩
    (fun x => { tmps := #[.slice none 0 0, .func (.func 59) #[] #[.pointer (some ⟨Bs, Os, none⟩)], .pointer (some ⟨w.heap.size, 0, none⟩), undef, .slice none 0 0, .int .i64 x, .func (.func 59) #[] #[.pointer (some ⟨Bs, Os, none⟩)], .int .i64 x, undef, undef, undef, undef, undef], defers := [] }) ?assign ?body ?done ?stop
  case assign =>
    intro l x W K hK
    gi_wp2
    exact hK
  case body =>
    rintro l pre x W ⟨⟨v, hv, hrow, hnil⟩, hB⟩ hlt
    have hc := hv.cell
    gi_wp2_with (gi_at_builtin; refine wpListIn_append_own _ rfl _ _ 34 rfl w.heap.size 3 i0 (.int .i64 0) 1 8 Tryz.underlying34 hi hz0 hz1 hz2 rfl (by decide) _ _ _ rfl (hrow.alloc _) ⟨W.heap.size, 0, none⟩ 1 1 [.int .i64 x] rfl rfl (cell_one_new _ _ _) (by simp [Value.oneCell']) (by omega) (by omega) (by have := hB.size; simp; omega) ?_; intro v' w1 hown' hgrow _; obtain ⟨g', cap', rfl⟩ := ownsRow_succ hown'; obtain ⟨hv1, hv2, hr2, hk2, hb2⟩ := hv.appended (by decide) hrow hB.size (Nat.le_refl _) hown' hgrow; have hc1 := hv1.cell; have hf1 := hv1.frozen)
    exact ⟨hk2.from _, hb2, ⟨_, hv2, by simpa using hr2, by simp⟩, hB.trans hb2⟩
  case done =>
    rintro D ys W hD rfl ⟨⟨v, hv, hrow, hnil⟩, hB⟩ hK
    have hc := hv.cell
    gi_wp2
    refine ⟨by simp, .inl ⟨_, _, rfl, run_takeDeferred hK, ?_⟩⟩
    exact ⟨_, results_tmp rfl _ _ _, v, rfl, ownsRow_putObj hrow _ hK rfl, hB.trans (belowK_b (w := w) (Nat.le_refl _) W D _ _ (by simp at hD; omega) hK rfl rfl)⟩
  case stop =>
    rintro D c pre W _ _ h _
    exact h.elim
end Go.Proofs

set_option linter.unusedSimpArgs false
set_option linter.unusedVariables false
namespace Go.Proofs
open Go.RowKit Go.Shelf Go.Sort
set_option maxRecDepth 100000 in
set_option maxHeartbeats 2000000 in
theorem Tryz.collect_in (F : Fence) (n : Nat) (h2 : F.fn 57) (h3 : F.fn 78) (h5 : F.fn 59) (hro : F.round = none) (hn : 4 ≤ n) (Bs Os : Nat) (sv : Value) (zs : List Int) (hlen : zs.length ≤ maxLen) (hbytes : zs.length * 8 ≤ 140737488351232) (w : World) (hBs : Bs < w.heap.size) (hc : w.cell? ⟨Bs, Os, none⟩ = some sv) (hI : Tryz.Ints w.heap.size w sv zs) :
    CallsIn F n Tryz.prog 57 #[.func (.func 59) #[] #[.pointer (some ⟨Bs, Os, none⟩)]] w fun e W' => ∃ v, e = .returned v ∧ W'.ownsRow w.heap.size 3 1 v zs.length (zs.map (Value.int .i64)) ∧ Below w.heap.size w W' := by
  have h1 : 1 ≤ n := by omega
  refine callsIn_of_wp Tryz.func57 rfl h2 ?_ hro
  simp only [Tryz.ntmps57, List.size_toArray, List.length_cons, List.length_nil, Nat.reduceAdd, Nat.reduceSub, Array.replicate_succ, Array.replicate_zero, List.push_toArray, List.append_toArray, List.nil_append, List.cons_append]
  gi_wp2_with (gi_at_call 78; refine (Tryz.appendSeq_in F (n - 1) h3 h5 hro (by omega) Bs Os sv zs hlen hbytes w hBs hc hI).mono ?_; rintro e w' ⟨v, rfl, hrow, hb⟩)
  go_ret
  exact ⟨v, rfl, hrow, hb⟩
set_option maxRecDepth 100000 in
set_option maxHeartbeats 2000000 in
theorem Tryz.sorted_in (n : Nat) (hn : 5 ≤ n) (Bs Os : Nat) (sv : Value) (zs : List Int) (hlen : zs.length ≤ maxLen) (hbytes : zs.length * 8 ≤ 140737488351232) (w : World) (hBs : Bs < w.heap.size) (hc : w.cell? ⟨Bs, Os, none⟩ = some sv) (hI : Tryz.Ints w.heap.size w sv zs) :
    CallsIn Fence.wide n Tryz.prog 33 #[.func (.func 59) #[] #[.pointer (some ⟨Bs, Os, none⟩)]] w fun e W' => ∃ v, e = .returned v ∧ W'.ownsRow w.heap.size 3 1 v zs.length ((zs.mergeSort fun x y => decide (x ≤ y)).map (Value.int .i64)) ∧ Below w.heap.size w W' := by
  have h1 : 1 ≤ n := by omega
  refine callsIn_of_wp Tryz.func33 rfl trivial ?_ rfl
  simp only [Tryz.ntmps33, List.size_toArray, List.length_cons, List.length_nil, Nat.reduceAdd, Nat.reduceSub, Array.replicate_succ, Array.replicate_zero, List.push_toArray, List.append_toArray, List.nil_append, List.cons_append]
  gi_wp2_with (refine ⟨trivial, ?_⟩; gi_at_call 57; refine (Tryz.collect_in Fence.wide (n - 1) trivial trivial trivial rfl (by omega) Bs Os sv zs hlen hbytes w hBs hc hI).mono ?_; rintro e W ⟨v, rfl, hrow, hb⟩)
  rcases hrow.2 with ⟨rfl, hz⟩ | ⟨gb, cap, cur, rfl, hbase, hgb, r1, r2, r3, r4⟩
  · have hss : zs = [] := List.eq_nil_of_length_eq_zero hz
    subst hss
    gi_wp2_with (refine ⟨trivial, ?_⟩; gi_at_call 58; refine (callsIn_wide.2 (Any.slices_Sort_int_none Tryz.laysSort none 0 W)).mono ?_; rintro e w' ⟨rfl, rfl⟩)
    go_ret
    exact ⟨.slice none 0 0, rfl, by simpa using hrow, hb⟩
  · have hH : Holds (Value.int .i64) W gb 0 zs.toArray := holds_of_block_i hgb (by simpa using r4)
    have hgl : gb < W.heap.size := (Array.getElem?_eq_some_iff.1 hgb).1
    have cS := callsIn_wide (n := n - 1).2 (Any.slices_Sort_int Tryz.laysSort gb 0 cap zs W hH hgl (by unfold maxLen at hlen; omega))
    gi_wp2_with (refine ⟨trivial, ?_⟩; gi_at_call 58; refine cS.mono ?_; rintro e w' ⟨rfl, nn, os, rfl⟩)
    go_ret
    exact ⟨_, rfl, ownsRow_sorted_i (by simp) hbase hgb r1 r2 r3, hb.grown (grownBy_sorted_i _) hb.size (fun j hj => by cases hj; exact hbase)⟩
end Go.Proofs
namespace Go.AM
open Go.CK Go.RowKit Go.Proofs
/-- a function that makes blocks and hands back a row of numbers, whatever the world -/
theorem Fun.ofRow {P : Program} {f : FuncId} {vals : List AV} {zs : List Int} (hz : zs.length ≤ lim) (h : ∀ (M : Hp) (σ : Nat → Nat) (n : Nat) (w : World) (args : List Value), M.le (Hp.of w) → args.length = vals.length → (∀ j (hj : j < vals.length) v, args[j]? = some v → RV M σ n vals[j] v) → Calls P f args.toArray w fun e w' => ∃ v T, e = .returned v ∧ w'.ownsRow w.heap.size T 1 v zs.length (zs.map (Value.int .i64)) ∧ Below w.heap.size w w') : Fun P f vals (slA intA zs) := by
  intro bs E G a0 w args lo hs hl hv
  refine (h G.M G.σ bs.length w args hs.ok hl hv).mono ?_
  rintro e w' ⟨v, T, rfl, hrow, hb⟩
  have h0 := hs.reAct (callE G bs w 1) ⟨#[v], []⟩ (Fr.refl _ _ _) rfl bs.length rfl (Nat.le_refl _) (fun _ _ => rfl) (fun B hB => .inl hB) rfl
  have hMlt : ∀ B o u, G.M B o = some u → B < w.heap.size := fun B o u hu => Hp.lt hs.ok hu
  have hle : G.M.le (G.M.plus w w') := fun B o u hu => by
    unfold Hp.plus
    rw [if_neg (by have := hMlt B o u hu; omega)]; exact hu
  have hok : (G.M.plus w w').le (Hp.of w') := fun B o u hu => by
    unfold Hp.plus at hu
    split at hu
    · exact hu
    · exact (hb.cell (p := ⟨B, o, none⟩) (hMlt B o u hu)).trans (hs.ok _ _ _ hu)
  have h1 := h0.grow (M' := G.M.plus w w') (w' := w') ⟨hb.os, hb.tape, hb.output, hb.size, hle, fun B hB _ => hb.block B hB, fun B hB _ o => by unfold Hp.plus; rw [if_neg (by omega)]⟩ hok
  refine ⟨_, _, _, _, rfl, ⟨rfl, rfl⟩, h1.put (k := 0) Nat.zero_lt_one (x := slA intA zs) (.flat ?_)⟩
  rcases hrow.2 with ⟨rfl, hz0⟩ | ⟨g, cap, cur, rfl, hg1, hg2, hg3, hg4, hg5, hg6⟩
  · have : zs = [] := List.eq_nil_of_length_eq_zero hz0
    subst this
    exact FV.mk_sl (l := []) (B := 0) (off := 0) (sz := 1) (by simp) (Nat.le_refl _) (Nat.zero_le _) (by simp) (fun h => absurd rfl h) (fun i hi => by cases hi)
  · have hel : Elems (G.M.plus w w') g 0 1 (zs.map intA) := fun i hi => by
      have hi' : i < zs.length := by simpa using hi
      refine ⟨by simp [intA, AV.cells], fun j hj => ?_⟩
      have hj0 : j = 0 := by simp [intA, AV.cells] at hj; omega
      subst hj0
      have hlt : i < cur.size := by omega
      have hcur : cur[i]? = some (.int .i64 zs[i]) := by
        have h1 : (cur.toList.take (zs.length * 1))[i]? = (zs.map (Value.int .i64))[i]? := by rw [hg6]
        rw [List.getElem?_take_of_lt (by omega)] at h1
        simpa [hi'] using h1
      refine ⟨.int .i64 zs[i], ?_, rfl, ?_⟩
      · unfold Hp.plus
        rw [if_pos hg1]
        simp only [World.cell?, hg2]
        simpa using hcur
      · simp only [List.getElem_map, intA, AV.cells]
        exact .int _ _
    have := FV.mk_sl (M := G.M.plus w w') (o := .no) (l := zs.map intA) (a := some ⟨g, 0, none⟩) (k := cap) (B := g) (off := 0) (sz := 1) (by simp) (by simpa using hg3) (by simpa using hz) (by simp) (fun _ => rfl) hel
    rw [List.length_map] at this
    exact this
end Go.AM
namespace Go.CK
open Go.AM Go.RowKit Go.Proofs
def sortL (l : List Int) : List Int := l.mergeSort fun x y => decide (x ≤ y)
theorem sorted_ok {l : List Int} (hl : l.length ≤ 100000) : Fun Tryz.prog 33 [.fn (.func 59) [] [.ept [slA intA l]]] (slA intA (sortL l)) := by
  have hsl : (sortL l).length = l.length := by simp [sortL]
  refine Fun.ofRow (by rw [hsl]; first|(unfold glim;omega)|(unfold lim;omega)) fun M σ n w args hM hal hv => ?_
  obtain ⟨v, rfl⟩ : ∃ v, args = [v] := by
    match args, hal with
    | [v], _ => exact ⟨v, rfl⟩
  have h0 := hv 0 (by simp) v rfl
  simp only [List.getElem_cons_zero] at h0
  obtain ⟨us, vs, rfl, h1, h2, h3, h4⟩ := h0.inv_fn
  have hus : us = [] := List.eq_nil_of_length_eq_zero (by simpa using h1)
  obtain ⟨p, rfl⟩ : ∃ p, vs = [p] := by
    match vs, h2 with
    | [p], _ => exact ⟨p, rfl⟩
  subst hus
  have h5 := h4 0 (by simp) p rfl
  simp only [List.getElem_cons_zero] at h5
  obtain ⟨B, off, rfl, hc⟩ := h5.inv_ept
  obtain ⟨sv, h6, h7, h8⟩ := hc 0 (by simp)
  simp only [List.getElem_cons_zero, Nat.add_zero] at h6 h8
  have hcell := hM _ _ _ h6
  have hI : Tryz.Ints w.heap.size w sv l := by
    obtain ⟨ad, k, B2, off2, sz, rfl, _, hk, hlm, _, hne, hel⟩ := h8.inv_sl
    by_cases e : l = []
    · subst e
      exact .inl ⟨ad, k, rfl, rfl⟩
    · have := hne (by simpa using e)
      subst this
      rw [List.length_map]
      have hat : ∀ j, (hj : j < l.length) → M B2 (off2 + j) = some (.int .i64 l[j]) := fun j hj => by
        obtain ⟨q1, q2⟩ := hel j (by simpa using hj)
        simp only [List.getElem_map, intA, AV.cells, List.length_cons, List.length_nil] at q1 q2
        obtain ⟨u, q3, _, q4⟩ := q2 0 (by simp)
        simp only [List.getElem_cons_zero, Nat.add_zero] at q3 q4
        rw [← q1, Nat.zero_add, Nat.mul_one] at q3
        cases q4
        exact q3
      refine .inr ⟨B2, off2, k, rfl, ?_, fun j hj => ?_⟩
      · exact Hp.lt hM (hat 0 (List.length_pos_iff.2 e))
      · rw [List.getElem?_eq_getElem hj]
        exact hM _ _ _ (hat j hj)
  refine (callsIn_wide (n := 5)).1 ((Tryz.sorted_in 5 (Nat.le_refl _) B off sv l (by unfold maxLen; omega) (by omega) w (World.block_lt_of_cell? w _ hcell) hcell hI).mono ?_)
  rintro e w' ⟨v, rfl, h9, h10⟩
  exact ⟨v, _, rfl, by rw [hsl]; exact h9, h10⟩
end Go.CK

