/-
  THE ABSTRACT MACHINE, 23: the rules of a run, each with its small questions answered by itself. No function of the program is named here. By an AI agent.
-/
import Derived.Test.YtamhnlajkncccaaDoorAmVw
set_option linter.unusedSimpArgs false
set_option linter.unusedVariables false
namespace Go.AM
open Go.CK Go.RowKit
variable {A B K : Prop} {b : Bool} {p : Prop}
theorem cY (k : A) (h : b = true := by with_reducible rfl) : CondN b A B := .yes h k
theorem cN (k : B) (h : b = false := by with_reducible rfl) : CondN b A B := .no h k
theorem cI [Decidable p] (k : A) (h : p := by omega) : CondN (decide p) A B := .is h k
theorem cJ [Decidable p] (k : B) (h : ¬ p := by omega) : CondN (decide p) A B := .isnt h k
theorem cYa (k : A) (h : b = true := by assumption) : CondN b A B := .yes h k
theorem cNa (k : B) (h : b = false := by assumption) : CondN b A B := .no h k
theorem cIa [Decidable p] (k : A) (h : p := by assumption) : CondN (decide p) A B := .is h k
theorem cJa [Decidable p] (k : B) (h : ¬ p := by assumption) : CondN (decide p) A B := .isnt h k
theorem cIr [Decidable p] (k : A) (h : p := by with_reducible rfl) : CondN (decide p) A B := .is h k
theorem cId [Decidable p] (k : A) (h : p := by decide) : CondN (decide p) A B := .is h k
theorem cJd [Decidable p] (k : B) (h : ¬ p := by decide) : CondN (decide p) A B := .isnt h k
theorem wI {n : Int} {K : Int → Prop} (k : K n) (h : -9223372036854775808 ≤ n ∧ n ≤ 9223372036854775807 := by omega) : WrapN .i64 n K := .i64 h k
theorem nS (k : K) (h : p := by first | omega | assumption | (show mapOk _ = true; rfl) | (simp; done) | (simp; omega) | (simp [lim,glim]; done) | (simp [lim,glim]; omega) | ((repeat' (first | assumption | exact Szs.nil | exact Szs.tm | refine Szs.app ?_ ?_ | refine Szs.cons rfl ?_ | exact Szs.map (fun _ => rfl) | exact Szs.rep rfl | refine Szs.take ?_ _ | refine Szs.drop ?_ _ | refine Szs.set ?_ rfl _)); done)) : NeedN p K := ⟨h, k⟩
theorem iA {l : List Tm} {n : Nat} {K : AV → Prop} {x : Tm} (k : K x.avw) (h : l[n]? = some x := by assumption) : IdxN 4 (l.map Tm.av) (n : Int) K := Go.CK.IdxN.tmK h k
theorem iB {l : List Tm} {n : Int} {K : AV → Prop} {x : Tm} (k : K x.avw) (h : l[n.toNat]? = some x := by assumption) (h0 : 0 ≤ n := by omega) : IdxN 4 (l.map Tm.av) n K := Go.CK.IdxN.tmKI h h0 k
theorem iC {l : List Tm} {n : Nat} {K : AV → Prop} (k : ∀ x, l[n]? = some x → K x.avw) (h1 : n < l.length := by omega) : IdxN 4 (l.map Tm.av) (n : Int) K := Go.CK.IdxN.tm h1 k
theorem iD {l : List Tm} {n : Int} {K : AV → Prop} (k : ∀ x, l[n.toNat]? = some x → K x.avw) (h0 : 0 ≤ n := by omega) (h1 : n < l.length := by omega) : IdxN 4 (l.map Tm.av) n K := Go.CK.IdxN.tmI h0 h1 k
section
variable {α : Type} {f : α → AV} {sz : Nat} {l : List α} {K : AV → Prop} {x : α}
theorem iE {n : Nat} (k : K (f x)) (h : l[n]? = some x := by assumption) (hs : ∀ x, (f x).cells.length = sz := by intro _; rfl) : IdxN sz (l.map f) (n : Int) K := .knownN h hs k
theorem iF {n : Int} (k : K (f x)) (h : l[n.toNat]? = some x := by assumption) (h0 : 0 ≤ n := by omega) (hs : ∀ x, (f x).cells.length = sz := by intro _; rfl) : IdxN sz (l.map f) n K := .known h h0 hs k
theorem iH {n : Nat} (k : ∀ x, l[n]? = some x → K (f x)) (h1 : n < l.length := by omega) (hs : ∀ x, (f x).cells.length = sz := by intro _; rfl) : IdxN sz (l.map f) (n : Int) K := .mapN h1 hs k
theorem iI {n : Int} (k : ∀ x, l[n.toNat]? = some x → K (f x)) (h0 : 0 ≤ n := by omega) (h1 : n < l.length := by omega) (hs : ∀ x, (f x).cells.length = sz := by intro _; rfl) : IdxN sz (l.map f) n K := .map h0 h1 hs k
end
theorem iG {sz : Nat} {l : List AV} {n : Int} {K : AV → Prop} {y : AV} (k : K y) (h : l[n.toNat]? = some y := by assumption) (h0 : 0 ≤ n := by omega) (hs : y.cells.length = sz := by first | rfl | assumption) : IdxN sz l n K := .of h0 h hs k
theorem iJ {sz : Nat} {l : List AV} {n : Int} {K : AV → Prop} {y : AV} (k : K y) (h : l[n.toNat]? = some y := by rfl) (h0 : 0 ≤ n := by decide) (hs : y.cells.length = sz := by first | rfl | assumption) : IdxN sz l n K := .of h0 h hs k
theorem hB {P : Program} {f : FuncId} (k : K) (h : hasBody P f = true := by kernel_rfl) : HasN P f K := ⟨h, k⟩
theorem aP {bs : List Box} {n : Nat} {x : LB} (k : K) (h : boxLoop bs n = some x := by rfl) : AsgP bs n x K := ⟨h, k⟩
theorem zN {e : List (Nat × AV)} {bs : List Box} {lo : Nat} {ik : IntKind} {n : Int} {K : AV → St → Prop} (h : ∀ k', n.toNat ≤ k' → K (.bsl bs.length n.toNat k') ⟨e, bs ++ [rowF (AV.int .i64) 1 k' []], lo⟩) (hn : 0 ≤ n ∧ n ≤ 4294967296 := by omega) : ZerN 1 ⟨e, bs, lo⟩ (.sl .full []) (.int ik n) K := .nil plainI hn h
theorem aR {e : List (Nat × AV)} {bs : List Box} {lo : Nat} {b m k : Nat} {l l' : List Int} {o : Cap} {K : AV → St → Prop} (h : ∀ k', (l ++ l').length ≤ k' → K (.bsl bs.length (l ++ l').length k') ⟨e, bs.set b .dead ++ [rowF (AV.int .i64) 1 k' (l ++ l')], lo⟩) (hb : bs[b]? = some (rowF (AV.int .i64) 1 k l) := by first | rfl | assumption) (hm : m = l.length := by first | rfl | assumption) (hk : m ≤ k := by omega) (hlim : m + l'.length ≤ 4294967296 := by first | omega | assumption) : AppN 1 ⟨e, bs, lo⟩ (.bsl b m k) (.sl o (l'.map (AV.int .i64))) K := .row plainI hb hm hk hlim h
theorem eL {e : List (Nat × AV)} {bs : List Box} {lo b k i : Nat} {l : List Int} {x : Int} {K : AV → Prop} (h : K (.int .i64 x)) (hb : bs[b]? = some (rowF (AV.int .i64) 1 k l) := by first | rfl | assumption) (hx : l[i]? = some x := by assumption) : ElN false 1 ⟨e, bs, lo⟩ (.elp b i 1 0) K := .ints hb hx h
theorem eS {e : List (Nat × AV)} {bs : List Box} {lo b k i : Nat} {l : List Int} {x y : Int} {K : St → Prop} (h : K ⟨e, bs.set b (rowF (AV.int .i64) 1 k (l.set i y)), lo⟩) (hb : bs[b]? = some (rowF (AV.int .i64) 1 k l) := by first | rfl | assumption) (hx : l[i]? = some x := by assumption) : EsN 1 ⟨e, bs, lo⟩ b i 1 0 (.int .i64 y) K := .ints hb hx h
theorem mB {e : List (Nat × AV)} {bs : List Box} {lo : Nat} {ik jk : IntKind} {n m : Int} {K : AV → St → Prop} (h : K (.bsl bs.length n.toNat m.toNat) ⟨e, bs ++ [rowF (AV.int .i64) 1 m.toNat (List.replicate n.toNat 0)], lo⟩) (hn : 0 ≤ n ∧ n ≤ m ∧ m ≤ 4294967296 := by first | omega | assumption) : MkN 1 (.int .i64 0) ⟨e, bs, lo⟩ (.int ik n) (.int jk m) K := .row plainI (0 : Int) hn h
theorem mBb {e : List (Nat × AV)} {bs : List Box} {lo : Nat} {ik jk : IntKind} {n m : Int} {K : AV → St → Prop} (h : K (.bsl bs.length n.toNat m.toNat) ⟨e, bs ++ [rowF AV.bool 1 m.toNat (List.replicate n.toNat false)], lo⟩) (hn : 0 ≤ n ∧ n ≤ m ∧ m ≤ 4294967296 := by first | omega | assumption) : MkN 1 (.bool false) ⟨e, bs, lo⟩ (.int ik n) (.int jk m) K := .row plainB false hn h
theorem eLb {e : List (Nat × AV)} {bs : List Box} {lo b k i : Nat} {l : List Bool} {x : Bool} {K : AV → Prop} (h : K (.bool x)) (hb : bs[b]? = some (rowF AV.bool 1 k l) := by first | rfl | assumption) (hx : l[i]? = some x := by assumption) : ElN false 1 ⟨e, bs, lo⟩ (.elp b i 1 0) K := .one (f := AV.bool) (fun _ => ⟨rfl, rfl⟩) hb hx h
theorem eSb {e : List (Nat × AV)} {bs : List Box} {lo b k i : Nat} {l : List Bool} {x y : Bool} {K : St → Prop} (h : K ⟨e, bs.set b (rowF AV.bool 1 k (l.set i y)), lo⟩) (hb : bs[b]? = some (rowF AV.bool 1 k l) := by first | rfl | assumption) (hx : l[i]? = some x := by assumption) : EsN 1 ⟨e, bs, lo⟩ b i 1 0 (.bool y) K := .one (f := AV.bool) (fun _ => ⟨rfl, rfl⟩) hb hx h
theorem pN {bs t : List Box} (k : K) : PreN bs (bs ++ t) K := ⟨⟨t, rfl⟩, k⟩
theorem pN2 {bs t u : List Box} (k : K) : PreN bs (bs ++ t ++ u) K := ⟨⟨t ++ u, by rw [List.append_assoc]⟩, k⟩
theorem pC {x : Box} {bs bs' : List Box} (h : PreN bs bs' K) : PreN (x :: bs) (x :: bs') K := ⟨let ⟨t, e⟩ := h.h; ⟨t, by rw [e]; rfl⟩, h.k⟩
theorem pE {bs : List Box} (k : K) : PreN bs bs K := ⟨⟨[], by simp⟩, k⟩
theorem pZ {bs : List Box} (k : K) : PreN [] bs K := ⟨⟨bs, rfl⟩, k⟩
theorem mS {v : AV} {xs : List Int} {n : Int} {ok : Bool} {z : AV} {K : AV → Prop} (h1 : n ∈ xs → K (okR ok v true)) (h2 : n ∉ xs → K (okR ok z false)) (hv : mapOk v = true := by rfl) : MapN (msOf v xs) n ok z K := .set hv h1 h2
theorem mA {bs : List Box} {b : Nat} {K : List (Int × AV) → Prop} {l : List (Int × AV)} (k : K l) (h : bs[b]? = some (.mp l) := by first | rfl | assumption) : MpAt bs b K := ⟨l, h, k⟩
theorem vE {x y : AV} (k : K) (h : x = y := by with_reducible rfl) : WkN x y K := .eq h k
theorem vI {i : IntKind} {x y : Int} (k : K) (h : x = y := by omega) : WkN (.int i x) (.int i y) K := .int h k
theorem vB {x y : Bool} (k : K) (h : x = y := by assumption) : WkN (.bool x) (.bool y) K := .bool h k
theorem vC {z : Nat} {l m : List AV} (k : K) (h : Szs z l := by (repeat' (first | assumption | exact Szs.nil | exact Szs.tm | refine Szs.app ?_ ?_ | refine Szs.cons rfl ?_ | exact Szs.map (fun _ => rfl) | exact Szs.rep rfl | refine Szs.take ?_ _ | refine Szs.drop ?_ _ | refine Szs.set ?_ rfl _)); done) (e : l = m := by with_reducible rfl) : WkN (.sl .full l) (.sl (.own z) m) K := .claim h e k
theorem vD {z : Nat} {l m : List AV} (e : l = m) (k : K) (h : Szs z l := by (repeat' (first | assumption | exact Szs.nil | exact Szs.tm | refine Szs.app ?_ ?_ | refine Szs.cons rfl ?_ | exact Szs.map (fun _ => rfl) | exact Szs.rep rfl | refine Szs.take ?_ _ | refine Szs.drop ?_ _ | refine Szs.set ?_ rfl _)); done) : WkN (.sl .full l) (.sl (.own z) m) K := .claim h e k
theorem vN {x y : AV} (k : K) (h : x.norm = y := by with_reducible rfl) : WkN x y K := .norm h k
theorem xB (k : K) (h : p := by with_reducible rfl) : BxN p K := ⟨h, k⟩
end Go.AM
