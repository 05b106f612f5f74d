/-
  Texts of this claim joined (wip/gen/bundle.py), those declarations only that are needed: AmV AmS. By an AI agent.
-/
import Derived.Test.YtamhnlajkncccaaGreatBaa
import Derived.RangeFuncMany
set_option linter.unusedSimpArgs false
set_option linter.unusedVariables false
namespace Go.AM
open Go.CK Go.RowKit

/-- what is known of a slice's capacity: nothing; it is the length; the slice's holder alone may write behind its end (elements of sz cells) -/
inductive Cap where
  | no
  | full
  | own (sz : Nat)
deriving DecidableEq

inductive AV where
  | top
  | bool (b : Bool)
  | int (k : IntKind) (n : Int)
  | str (s : ByteArray)
  | sl (o : Cap) (l : List AV)
  | agg (cs : List AV)
  | tup (vs : List AV)
  | ptr (b off : Nat)
  | nptr
  | ept (cs : List AV)
  | fn (f : Fn) (first caps : List AV)
  | yl (b : Nat)
  | bsl (b m k : Nat)
  | elp (b i z off : Nat)
  | mpt (b : Nat)
  | nfn
  | nmp
  | nifc
deriving Inhabited

namespace AV
def cells : AV → List AV
  | .agg cs => cs
  | v => [v]
def isAgg : AV → Bool
  | .agg _ => true
  | _ => false
def deown : AV → AV
  | .sl (.own _) l => .sl .no l
  | v => v
/-- nothing that lies in memory of its own, nothing owned -/
def flat1 : AV → Bool
  | .top | .bool _ | .int .. | .str _ | .nptr | .nfn | .nmp | .nifc => true
  | .sl (.own _) _ => false
  | .sl _ _ => true
  | _ => false
def flat : AV → Bool
  | .agg cs => cs.all flat1
  | v => v.flat1
/-- what is known of capacities, forgotten -/
def norm1 : AV → AV
  | .sl _ l => .sl .no l
  | v => v
def norm : AV → AV
  | .agg cs => .agg (cs.map norm1)
  | v => v.norm1
/-- no pointer to a box from n on -/
def lt0 (n : Nat) : AV → Bool
  | .ptr b _ => decide (b < n)
  | .yl b => decide (b < n)
  | .bsl b _ _ => decide (b < n)
  | .elp b _ _ _ => decide (b < n)
  | .mpt b => decide (b < n)
  | .ept _ => true
  | v => v.flat1
def lt1 (n : Nat) : AV → Bool
  | .fn _ xs ys => xs.all (lt0 n) && ys.all (lt0 n)
  | v => v.lt0 n
def lt2 (n : Nat) : AV → Bool
  | .agg cs => cs.all (lt1 n)
  | v => v.lt1 n
def lt (n : Nat) : AV → Bool
  | .agg cs => cs.all (lt1 n)
  | .tup cs => cs.all (lt2 n)
  | .ept _ => true
  | .sl _ _ => true
  | v => v.lt1 n
end AV

/-- In memory M (cells that stay as they are) the value reads as av. -/
inductive FV (M : Hp) : AV → Value → Prop
  | top (v : Value) : FV M .top v
  | bool (b : Bool) : FV M (.bool b) (.bool b)
  | int (k : IntKind) (n : Int) : FV M (.int k n) (.int k n)
  | str (s : ByteArray) (h : s.size ≤ lim) : FV M (.str s) (.string s)
  | sl (o : Cap) (l : List AV) (a : Option Addr) (k B off sz : Nat) (ho : ∀ z, o ≠ .own z) (hk : l.length ≤ k) (hl : l.length ≤ lim) (hf : o = .full → k = l.length)
      (ha : l ≠ [] → a = some ⟨B, off, none⟩) (hz : ∀ i (h : i < l.length), l[i].cells.length = sz)
      (hm : ∀ i, i < l.length → ∀ j, j < sz → ∃ v, M B (off + i * sz + j) = some v ∧ v.oneCell' = true)
      (hv : ∀ i (h : i < l.length) j (hj : j < l[i].cells.length) v, M B (off + i * sz + j) = some v → FV M (l[i].cells[j]) v) : FV M (.sl o l) (.slice a l.length k)
  | agg (cs : List AV) (vs : List Value) (hl : vs.length = cs.length) (h1 : ∀ v ∈ vs, v.oneCell' = true)
      (hv : ∀ j (h : j < cs.length) v, vs[j]? = some v → FV M cs[j] v) : FV M (.agg cs) (.agg vs.toArray)
  | nptr : FV M .nptr (.pointer none)
  | nfn : FV M .nfn .nilFunc
  | nmp : FV M .nmp (.map none)
  | nifc : FV M .nifc .nilIface

/-- the cells from (B, off) on read as cs -/
def Cells (M : Hp) (B off : Nat) (cs : List AV) : Prop := ∀ j (h : j < cs.length), ∃ v, M B (off + j) = some v ∧ v.oneCell' = true ∧ FV M cs[j] v

/-- the elements of l lie from (B, off) on, sz cells each -/
def Elems (M : Hp) (B off sz : Nat) (l : List AV) : Prop := ∀ i (h : i < l.length), l[i].cells.length = sz ∧ Cells M B (off + i * sz) l[i].cells

theorem FV.mono {M M' : Hp} (hM : M.le M') {x : AV} {v : Value} (h : FV M x v) : FV M' x v := by
  induction h with
  | top v => exact .top v
  | bool b => exact .bool b
  | int k n => exact .int k n
  | str s h => exact .str s h
  | sl o l a k B off sz ho hk hl hf ha hz hm hv ih =>
    refine .sl o l a k B off sz ho hk hl hf ha hz (fun i hi j hj => let ⟨v, h1, h2⟩ := hm i hi j hj; ⟨v, hM _ _ _ h1, h2⟩) (fun i hi j hj v hv' => ?_)
    obtain ⟨v0, h1, _⟩ := hm i hi j (by rw [← hz i hi]; exact hj)
    have := hM _ _ _ h1
    rw [this] at hv'
    cases hv'
    exact ih i hi j hj _ h1
  | agg cs vs hl h1 hv ih => exact .agg cs vs hl h1 ih
  | nptr => exact .nptr
  | nfn => exact .nfn
  | nmp => exact .nmp
  | nifc => exact .nifc

theorem Cells.mono {M M' : Hp} (hM : M.le M') {B off : Nat} {cs : List AV} (h : Cells M B off cs) : Cells M' B off cs :=
  fun j hj => let ⟨v, h1, h2, h3⟩ := h j hj; ⟨v, hM _ _ _ h1, h2, h3.mono hM⟩
theorem Elems.mono {M M' : Hp} (hM : M.le M') {B off sz : Nat} {l : List AV} (h : Elems M B off sz l) : Elems M' B off sz l :=
  fun i hi => ⟨(h i hi).1, (h i hi).2.mono hM⟩
theorem Cells.drop {M : Hp} {B off : Nat} {cs : List AV} (h : Cells M B off cs) (k : Nat) : Cells M B (off + k) (cs.drop k) := fun j hj => by
  simp only [List.length_drop] at hj
  obtain ⟨v, h1, h2, h3⟩ := h (k + j) (by omega)
  exact ⟨v, by rw [Nat.add_assoc]; exact h1, h2, by rw [List.getElem_drop]; exact h3⟩

theorem FV.mk_sl {M : Hp} {o : Cap} {l : List AV} {a : Option Addr} {k B off sz : Nat} (ho : ∀ z, o ≠ .own z) (hk : l.length ≤ k) (hl : l.length ≤ lim) (hf : o = .full → k = l.length)
    (ha : l ≠ [] → a = some ⟨B, off, none⟩) (he : Elems M B off sz l) : FV M (.sl o l) (.slice a l.length k) := by
  refine .sl o l a k B off sz ho hk hl hf ha (fun i h => (he i h).1) (fun i hi j hj => ?_) (fun i hi j hj v hv => ?_)
  · obtain ⟨h1, h2⟩ := he i hi
    obtain ⟨v, h3, h4, _⟩ := h2 j (by omega)
    exact ⟨v, h3, h4⟩
  · obtain ⟨h1, h2⟩ := he i hi
    obtain ⟨v', h3, _, h5⟩ := h2 j hj
    rw [h3] at hv; cases hv; exact h5

theorem FV.inv_sl {M : Hp} {o : Cap} {l : List AV} {v : Value} (h : FV M (.sl o l) v) :
    ∃ a k B off sz, v = .slice a l.length k ∧ (∀ z, o ≠ .own z) ∧ l.length ≤ k ∧ l.length ≤ lim ∧ (o = .full → k = l.length) ∧ (l ≠ [] → a = some ⟨B, off, none⟩) ∧ Elems M B off sz l := by
  cases h with
  | sl _ _ a k B off sz ho hk hl hf ha hz hm hv =>
    refine ⟨a, k, B, off, sz, rfl, ho, hk, hl, hf, ha, fun i hi => ⟨hz i hi, fun j hj => ?_⟩⟩
    obtain ⟨v, h1, h2⟩ := hm i hi j (by rw [← hz i hi]; exact hj)
    exact ⟨v, h1, h2, hv i hi j hj v h1⟩

/-- pointers into boxes besides: box b lies in block σ b; there are n boxes -/
inductive RV (M : Hp) (σ : Nat → Nat) (n : Nat) : AV → Value → Prop
  | flat {x : AV} {v : Value} (h : FV M x v) : RV M σ n x v
  | agg (cs : List AV) (vs : List Value) (hl : vs.length = cs.length) (h1 : ∀ v ∈ vs, v.oneCell' = true)
      (hv : ∀ j (h : j < cs.length) v, vs[j]? = some v → RV M σ n cs[j] v) : RV M σ n (.agg cs) (.agg vs.toArray)
  | tup (cs : List AV) (vs : List Value) (hl : vs.length = cs.length)
      (hv : ∀ j (h : j < cs.length) v, vs[j]? = some v → RV M σ n cs[j] v) : RV M σ n (.tup cs) (.tuple vs.toArray)
  | ptr (b off : Nat) (h : b < n) : RV M σ n (.ptr b off) (.pointer (some ⟨σ b, off, none⟩))
  | ept (cs : List AV) (B off : Nat) (h : Cells M B off cs) : RV M σ n (.ept cs) (.pointer (some ⟨B, off, none⟩))
  | fn (f : Fn) (xs ys : List AV) (us vs : List Value) (h1 : us.length = xs.length) (h2 : vs.length = ys.length)
      (hx : ∀ j (h : j < xs.length) v, us[j]? = some v → RV M σ n xs[j] v) (hy : ∀ j (h : j < ys.length) v, vs[j]? = some v → RV M σ n ys[j] v) :
      RV M σ n (.fn f xs ys) (.func f us.toArray vs.toArray)
  | yl (b : Nat) (h : b < n) : RV M σ n (.yl b) (.func (.yield (σ b)) #[] #[])
  | bsl (b m k : Nat) (a : Option Addr) (h : b < n) (hk : m ≤ k) (hl : m ≤ glim) (ha : k ≠ 0 → a = some ⟨σ b, 0, none⟩) : RV M σ n (.bsl b m k) (.slice a m k)
  | elp (b i z off : Nat) (h : b < n) : RV M σ n (.elp b i z off) (.pointer (some ⟨σ b, i * z + off, none⟩))
  | mpt (b : Nat) (h : b < n) : RV M σ n (.mpt b) (.map (some (σ b)))

theorem RV.mono {M M' : Hp} (hM : M.le M') {σ σ' : Nat → Nat} {n n' : Nat} (hn : n ≤ n') (hσ : ∀ b, b < n → σ' b = σ b) {x : AV} {v : Value} (h : RV M σ n x v) : RV M' σ' n' x v := by
  induction h with
  | flat h => exact .flat (h.mono hM)
  | agg cs vs hl h1 _ ih => exact .agg cs vs hl h1 ih
  | tup cs vs hl _ ih => exact .tup cs vs hl ih
  | ptr b off h => rw [← hσ b h]; exact .ptr b off (by omega)
  | ept cs B off h => exact .ept cs B off (h.mono hM)
  | fn f xs ys us vs h1 h2 _ _ ih1 ih2 => exact .fn f xs ys us vs h1 h2 ih1 ih2
  | yl b h => rw [← hσ b h]; exact .yl b (by omega)
  | bsl b m k a h hk hl ha => exact .bsl b m k a (by omega) hk hl (by rw [hσ b h]; exact ha)
  | elp b i z off h => rw [← hσ b h]; exact .elp b i z off (by omega)
  | mpt b h => rw [← hσ b h]; exact .mpt b (by omega)

section inv
variable {M : Hp} {σ : Nat → Nat} {n : Nat} {v : Value}
theorem RV.inv_bool {b : Bool} (h : RV M σ n (.bool b) v) : v = .bool b := by cases h with | flat h => cases h; rfl
theorem RV.inv_int {k : IntKind} {m : Int} (h : RV M σ n (.int k m) v) : v = .int k m := by cases h with | flat h => cases h; rfl
theorem RV.inv_str {s : ByteArray} (h : RV M σ n (.str s) v) : v = .string s ∧ s.size ≤ lim := by cases h with | flat h => cases h with | str _ h => exact ⟨rfl, h⟩
theorem RV.inv_sl {o : Cap} {l : List AV} (h : RV M σ n (.sl o l) v) :
    ∃ a k B off sz, v = .slice a l.length k ∧ (∀ z, o ≠ .own z) ∧ l.length ≤ k ∧ l.length ≤ lim ∧ (o = .full → k = l.length) ∧ (l ≠ [] → a = some ⟨B, off, none⟩) ∧ Elems M B off sz l := by
  cases h with | flat h => exact h.inv_sl
theorem RV.inv_agg {cs : List AV} (h : RV M σ n (.agg cs) v) : ∃ vs : List Value, v = .agg vs.toArray ∧ vs.length = cs.length ∧ (∀ v ∈ vs, v.oneCell' = true) ∧ ∀ j (h : j < cs.length) v, vs[j]? = some v → RV M σ n cs[j] v := by
  cases h with
  | flat h => cases h with | agg _ vs hl h1 hv => exact ⟨vs, rfl, hl, h1, fun j h v hj => .flat (hv j h v hj)⟩
  | agg _ vs hl h1 hv => exact ⟨vs, rfl, hl, h1, hv⟩
theorem RV.inv_tup {cs : List AV} (h : RV M σ n (.tup cs) v) : ∃ vs : List Value, v = .tuple vs.toArray ∧ vs.length = cs.length ∧ ∀ j (h : j < cs.length) v, vs[j]? = some v → RV M σ n cs[j] v := by
  cases h with
  | flat h => cases h
  | tup _ vs hl hv => exact ⟨vs, rfl, hl, hv⟩
theorem RV.inv_ptr {b off : Nat} (h : RV M σ n (.ptr b off) v) : v = .pointer (some ⟨σ b, off, none⟩) ∧ b < n := by
  cases h with
  | flat h => cases h
  | ptr _ _ h => exact ⟨rfl, h⟩
theorem RV.inv_ept {cs : List AV} (h : RV M σ n (.ept cs) v) : ∃ B off, v = .pointer (some ⟨B, off, none⟩) ∧ Cells M B off cs := by
  cases h with
  | flat h => cases h
  | ept _ B off h => exact ⟨B, off, rfl, h⟩
theorem RV.inv_fn {f : Fn} {xs ys : List AV} (h : RV M σ n (.fn f xs ys) v) : ∃ us vs : List Value, v = .func f us.toArray vs.toArray ∧ us.length = xs.length ∧ vs.length = ys.length ∧
    (∀ j (h : j < xs.length) v, us[j]? = some v → RV M σ n xs[j] v) ∧ (∀ j (h : j < ys.length) v, vs[j]? = some v → RV M σ n ys[j] v) := by
  cases h with
  | flat h => cases h
  | fn _ _ _ us vs h1 h2 h3 h4 => exact ⟨us, vs, rfl, h1, h2, h3, h4⟩

theorem RV.inv_yl {b : Nat} (h : RV M σ n (.yl b) v) : v = .func (.yield (σ b)) #[] #[] ∧ b < n := by
  cases h with
  | flat h => cases h
  | yl _ h => exact ⟨rfl, h⟩
theorem RV.inv_bsl {b m k : Nat} (h : RV M σ n (.bsl b m k) v) : ∃ a, v = .slice a m k ∧ b < n ∧ m ≤ k ∧ m ≤ glim ∧ (k ≠ 0 → a = some ⟨σ b, 0, none⟩) := by
  cases h with
  | flat h => cases h
  | bsl _ _ _ a h hk hl ha => exact ⟨a, rfl, h, hk, hl, ha⟩
theorem RV.inv_elp {b i z off : Nat} (h : RV M σ n (.elp b i z off) v) : v = .pointer (some ⟨σ b, i * z + off, none⟩) ∧ b < n := by
  cases h with
  | flat h => cases h
  | elp _ _ _ _ h => exact ⟨rfl, h⟩
theorem RV.inv_mpt {b : Nat} (h : RV M σ n (.mpt b) v) : v = .map (some (σ b)) ∧ b < n := by
  cases h with
  | flat h => cases h
  | mpt _ h => exact ⟨rfl, h⟩
theorem RV.flat1 {x : AV} (h : RV M σ n x v) (hf : x.flat1 = true) : FV M x v := by
  cases h with
  | flat h => exact h
  | agg => simp [AV.flat1] at hf
  | tup => simp [AV.flat1] at hf
  | ptr => simp [AV.flat1] at hf
  | ept => simp [AV.flat1] at hf
  | fn => simp [AV.flat1] at hf
  | yl => simp [AV.flat1] at hf
  | bsl => simp [AV.flat1] at hf
  | elp => simp [AV.flat1] at hf
  | mpt => simp [AV.flat1] at hf
theorem RV.toFV {x : AV} (h : RV M σ n x v) (hf : x.flat = true) : FV M x v := by
  cases h with
  | flat h => exact h
  | agg cs vs hl h1 hv =>
    simp only [AV.flat, List.all_eq_true] at hf
    exact .agg cs vs hl h1 fun j hj v hjv => (hv j hj v hjv).flat1 (hf _ (List.getElem_mem hj))
  | tup => simp [AV.flat, AV.flat1] at hf
  | ptr => simp [AV.flat, AV.flat1] at hf
  | ept => simp [AV.flat, AV.flat1] at hf
  | fn => simp [AV.flat, AV.flat1] at hf
  | yl => simp [AV.flat, AV.flat1] at hf
  | bsl => simp [AV.flat, AV.flat1] at hf
  | elp => simp [AV.flat, AV.flat1] at hf
  | mpt => simp [AV.flat, AV.flat1] at hf

theorem FV.norm1 {x : AV} (h : FV M x v) : FV M x.norm1 v := by
  cases h with
  | sl o l a k B off sz ho hk hl hf ha hz hm hv => exact .sl .no l a k B off sz (fun z e => by cases e) hk hl (fun e => by cases e) ha hz hm hv
  | top v => exact .top v
  | bool b => exact .bool b
  | int k n => exact .int k n
  | str s h => exact .str s h
  | agg cs vs hl h1 hv => exact .agg cs vs hl h1 hv
  | nptr => exact .nptr
  | nfn => exact .nfn
  | nmp => exact .nmp
  | nifc => exact .nifc
theorem RV.norm1 {x : AV} (h : RV M σ n x v) : RV M σ n x.norm1 v := by
  cases h with
  | flat h => exact .flat h.norm1
  | agg cs vs hl h1 hv => exact .agg cs vs hl h1 hv
  | tup cs vs hl hv => exact .tup cs vs hl hv
  | ptr b off h => exact .ptr b off h
  | ept cs B off h => exact .ept cs B off h
  | fn f xs ys us vs h1 h2 hx hy => exact .fn f xs ys us vs h1 h2 hx hy
  | yl b h => exact .yl b h
  | bsl b m k a h hk hl ha => exact .bsl b m k a h hk hl ha
  | elp b i z off h => exact .elp b i z off h
  | mpt b h => exact .mpt b h
theorem RV.norm {x : AV} (h : RV M σ n x v) : RV M σ n x.norm v := by
  cases x with
  | agg cs =>
    obtain ⟨vs, rfl, hl, h1, hv⟩ := h.inv_agg
    refine .agg _ vs (by simpa using hl) h1 fun j hj v hjv => ?_
    simp only [List.length_map] at hj
    rw [List.getElem_map]
    exact (hv j hj v hjv).norm1
  | _ => exact h.norm1
theorem deown_norm1 (x : AV) : x.deown.norm1 = x.norm1 := by
  cases x with
  | sl o l => cases o <;> rfl
  | _ => rfl
theorem deown_norm (x : AV) : x.deown.norm = x.norm := by
  cases x with
  | sl o l => cases o <;> rfl
  | _ => rfl
theorem RV.deown_of {x : AV} (h : RV M σ n x v) : x.deown = x := by
  cases h with
  | flat h =>
    cases h with
    | sl o l a k B off sz ho => cases o with
      | own z => exact absurd rfl (ho z)
      | _ => rfl
    | _ => rfl
  | _ => rfl

/-- the value's pointers stay below m -/
theorem RV.lt0 {x : AV} {m : Nat} (h : RV M σ n x v) (hf : x.lt0 m = true) : RV M σ m x v := by
  cases h with
  | flat h => exact .flat h
  | ptr b off _ => exact .ptr b off (by simpa [AV.lt0] using hf)
  | agg => simp [AV.lt0, AV.flat1] at hf
  | tup => simp [AV.lt0, AV.flat1] at hf
  | ept cs B off h => exact .ept cs B off h
  | fn => simp [AV.lt0, AV.flat1] at hf
  | yl b _ => exact .yl b (by simpa [AV.lt0] using hf)
  | bsl b m k a h hk hl ha => exact .bsl b m k a (by simpa [AV.lt0] using hf) hk hl ha
  | elp b i z off _ => exact .elp b i z off (by simpa [AV.lt0] using hf)
  | mpt b _ => exact .mpt b (by simpa [AV.lt0] using hf)
theorem RV.lt1 {x : AV} {m : Nat} (h : RV M σ n x v) (hf : x.lt1 m = true) : RV M σ m x v := by
  cases h with
  | fn f xs ys us vs h1 h2 hx hy =>
    simp only [AV.lt1, Bool.and_eq_true, List.all_eq_true] at hf
    exact .fn f xs ys us vs h1 h2 (fun j hj v e => (hx j hj v e).lt0 (hf.1 _ (List.getElem_mem hj))) (fun j hj v e => (hy j hj v e).lt0 (hf.2 _ (List.getElem_mem hj)))
  | flat h => exact .flat h
  | ptr b off k => exact (RV.ptr (M := M) (σ := σ) b off k).lt0 (by simpa [AV.lt1] using hf)
  | agg => simp [AV.lt1, AV.lt0, AV.flat1] at hf
  | tup => simp [AV.lt1, AV.lt0, AV.flat1] at hf
  | ept cs B off h => exact .ept cs B off h
  | yl b k => exact (RV.yl (M := M) (σ := σ) b k).lt0 (by simpa [AV.lt1] using hf)
  | bsl b q k a h hk hl ha => exact (RV.bsl (M := M) (σ := σ) b q k a h hk hl ha).lt0 (by simpa [AV.lt1] using hf)
  | elp b i z off h => exact (RV.elp (M := M) (σ := σ) b i z off h).lt0 (by simpa [AV.lt1] using hf)
  | mpt b h => exact (RV.mpt (M := M) (σ := σ) b h).lt0 (by simpa [AV.lt1] using hf)
theorem RV.lt2 {x : AV} {m : Nat} (h : RV M σ n x v) (hf : x.lt2 m = true) : RV M σ m x v := by
  cases x with
  | agg cs =>
    obtain ⟨vs, rfl, hl, h1, hv⟩ := h.inv_agg
    simp only [AV.lt2, List.all_eq_true] at hf
    exact .agg cs vs hl h1 fun j hj v e => (hv j hj v e).lt1 (hf _ (List.getElem_mem hj))
  | _ => exact h.lt1 hf
theorem RV.lt {x : AV} {m : Nat} (h : RV M σ n x v) (hf : x.lt m = true) : RV M σ m x v := by
  cases h with
  | flat h => exact .flat h
  | agg cs vs hl h1 hv =>
    simp only [AV.lt, List.all_eq_true] at hf
    exact .agg cs vs hl h1 fun j hj v e => (hv j hj v e).lt1 (hf _ (List.getElem_mem hj))
  | tup cs vs hl hv =>
    simp only [AV.lt, List.all_eq_true] at hf
    exact .tup cs vs hl fun j hj v e => (hv j hj v e).lt2 (hf _ (List.getElem_mem hj))
  | ptr b off k => exact (RV.ptr (M := M) (σ := σ) b off k).lt1 (by simpa [AV.lt] using hf)
  | ept cs B off h => exact .ept cs B off h
  | fn f xs ys us vs h1 h2 hx hy => exact (RV.fn f xs ys us vs h1 h2 hx hy).lt1 (by simpa [AV.lt] using hf)
  | yl b k => exact (RV.yl (M := M) (σ := σ) b k).lt1 (by simpa [AV.lt] using hf)
  | bsl b q k a h hk hl ha => exact (RV.bsl (M := M) (σ := σ) b q k a h hk hl ha).lt1 (by simpa [AV.lt] using hf)
  | elp b i z off h => exact (RV.elp (M := M) (σ := σ) b i z off h).lt1 (by simpa [AV.lt] using hf)
  | mpt b h => exact (RV.mpt (M := M) (σ := σ) b h).lt1 (by simpa [AV.lt] using hf)
end inv
theorem lt_deown (m : Nat) (x : AV) : x.deown.lt m = x.lt m := by
  cases x with
  | sl o l => cases o <;> rfl
  | _ => rfl
end Go.AM

namespace Go.AM
open Go.CK Go.RowKit

/-- the record of a loop over an iterator, with what was known when the loop began -/
structure LB where
  M : Hp
  σ : Nat → Nat
  n : Nat
  r : Loop
  /-- it is no loop, but a map: its keys and values, in the order in which they came -/
  mp : Option (List (Int × AV)) := none
def vOf : AV → Value
  | .bool b => .bool b
  | .int k n => .int k n
  | _ => .agg #[]
def mapE : Nat → List (Int × AV) → List MapEntry
  | _, [] => []
  | i, (k, x) :: l => { key := .int .i64 k, val := vOf x, born := i } :: mapE (i + 1) l
def mapEs (l : List (Int × AV)) : Array MapEntry := (mapE 0 l).toArray
/-- what lies in the record's block -/
def LB.obj (x : LB) : Obj := match x.mp with
  | none => .loop x.r
  | some l => .map (mapEs l) l.length
theorem LB.obj_loop {x : LB} (h : x.mp = none) : x.obj = .loop x.r := by unfold LB.obj; rw [h]
theorem LB.obj_no (x : LB) : x.obj.isCells = false := by
  unfold LB.obj
  cases x.mp <;> rfl
theorem LB.obj_nd (x : LB) {d : Option (List Deferred)} (h : some (Obj.deferred d) = some x.obj) : False := by
  unfold LB.obj at h
  cases hx : x.mp <;> rw [hx] at h <;> cases h
theorem LB.obj_nc (x : LB) {vs : Array Value} {T : TypeId} {q : Nat × Nat} (h : some (Obj.cells vs T q) = some x.obj) : False := by
  have := x.obj_no
  cases h' : x.obj <;> rw [h'] at h this <;> first | (cases h; done) | cases this
def mpLB (l : List (Int × AV)) : LB := ⟨fun _ _ => none, fun _ => 0, 0, default, some l⟩

inductive Box where
  | cells (cs : List AV)
  | dead
  | loop (x : LB)
  /-- cells, if there are any -/
  | row (cs : List AV)
  | mp (l : List (Int × AV))
instance : Inhabited Box := ⟨.dead⟩

def envGet : List (Nat × AV) → Nat → Option AV
  | [], _ => none
  | (t, v) :: r, k => match Nat.beq t k with
    | true => some v
    | false => envGet r k
def envPut : List (Nat × AV) → Nat → AV → List (Nat × AV)
  | [], k, v => [(k, v)]
  | (t, u) :: r, k, v => match Nat.beq t k with
    | true => (k, v) :: r
    | false => match Nat.blt k t with
      | true => (k, v) :: (t, u) :: r
      | false => (t, u) :: envPut r k v
def envKeep (f : Nat → Bool) : List (Nat × AV) → List (Nat × AV)
  | [] => []
  | (t, v) :: r => match f t with
    | true => (t, v) :: envKeep f r
    | false => envKeep f r

theorem beq_ne {a b : Nat} (h : ¬ a = b) : Nat.beq a b = false := by
  cases hb : Nat.beq a b with
  | false => rfl
  | true => exact absurd (Nat.eq_of_beq_eq_true hb) h

theorem envGet_put : ∀ (e : List (Nat × AV)) (k : Nat) (v : AV) (j : Nat), envGet (envPut e k v) j = if j = k then some v else envGet e j
  | [], k, v, j => by
    simp only [envPut, envGet]
    by_cases h : k = j
    · subst h; simp
    · rw [if_neg (fun e => h e.symm)]
      have : Nat.beq k j = false := beq_ne h
      rw [this]
  | (t, u) :: r, k, v, j => by
    simp only [envPut]
    by_cases h : t = k
    · subst h
      have : Nat.beq t t = true := by simp
      rw [this]
      simp only [envGet]
      by_cases h2 : t = j
      · subst h2; simp
      · have : Nat.beq t j = false := beq_ne h2
        rw [this, if_neg (fun e => h2 e.symm)]
    · have hk : Nat.beq t k = false := beq_ne h
      rw [hk]
      simp only
      cases hb : Nat.blt k t with
      | true =>
        simp only [envGet]
        by_cases h2 : k = j
        · subst h2; simp
        · have : Nat.beq k j = false := beq_ne h2
          rw [this, if_neg (fun e => h2 e.symm)]
      | false =>
        simp only [envGet]
        by_cases h2 : t = j
        · subst h2
          have : Nat.beq t t = true := by simp
          rw [this, if_neg h]
        · have : Nat.beq t j = false := beq_ne h2
          rw [this]
          exact envGet_put r k v j

theorem envGet_keep (f : Nat → Bool) : ∀ (e : List (Nat × AV)) (j : Nat) (v : AV), envGet (envKeep f e) j = some v → envGet e j = some v ∧ f j = true
  | [], j, v, h => by cases h
  | (t, u) :: r, j, v, h => by
    simp only [envKeep] at h
    cases hf : f t with
    | true =>
      rw [hf] at h
      simp only [envGet] at h ⊢
      cases hb : Nat.beq t j with
      | true => rw [hb] at h; simp only at h; have := Nat.eq_of_beq_eq_true hb; subst this; exact ⟨h, hf⟩
      | false => rw [hb] at h; exact envGet_keep f r j v h
    | false =>
      rw [hf] at h
      simp only at h
      obtain ⟨h1, h2⟩ := envGet_keep f r j v h
      simp only [envGet]
      cases hb : Nat.beq t j with
      | true => have := Nat.eq_of_beq_eq_true hb; subst this; rw [hf] at h2; cases h2
      | false => exact ⟨h1, h2⟩

structure St where
  env : List (Nat × AV)
  bs : List Box
  /-- the boxes that were there when the call began -/
  lo : Nat

/-- where a value is held: a slot, or a cell of a box -/
inductive Pl where
  | sl (t : Nat)
  | bx (b j : Nat)
deriving DecidableEq

def Box.cs? : Box → Option (List AV)
  | .cells cs => some cs
  | .row (c :: cs) => some (c :: cs)
  | _ => none
def Box.lb? : Box → Option LB
  | .loop x => some x
  | .mp l => some (mpLB l)
  | _ => none
def boxCells (bs : List Box) (b : Nat) : Option (List AV) :=
  match bs[b]? with
  | some x => x.cs?
  | none => none
def boxLoop (bs : List Box) (b : Nat) : Option LB :=
  match bs[b]? with
  | some x => x.lb?
  | none => none
theorem row_cs (cs : List AV) : (Box.row cs).cs? = if cs = [] then none else some cs := by cases cs <;> rfl
def St.at (s : St) : Pl → Option AV
  | .sl t => envGet s.env t
  | .bx b j => (boxCells s.bs b).bind (·[j]?)
def St.get (s : St) (t : Nat) : AV := match envGet s.env t with
  | some v => v
  | none => .top
def St.put (s : St) (d : Option Nat) (x : AV) : St := match d with
  | some k => ⟨envPut s.env k x, s.bs, s.lo⟩
  | none => s
def St.setBox (s : St) (b : Nat) (cs : List AV) : St := ⟨s.env, s.bs.set b (.cells cs), s.lo⟩
def St.upd (s : St) (p : Pl) (x : AV) : St :=
  match p with
  | .sl t => ⟨envPut s.env t x, s.bs, s.lo⟩
  | .bx b j => match boxCells s.bs b with
    | some cs => s.setBox b (cs.set j x)
    | none => s

theorem St.at_put (s : St) (k : Nat) (x : AV) (p : Pl) : (s.put (some k) x).at p = if p = .sl k then some x else s.at p := by
  cases p with
  | sl t =>
    simp only [St.put, St.at, envGet_put]
    by_cases h : t = k
    · subst h; simp
    · rw [if_neg h, if_neg (by simpa using h)]
  | bx b j => simp [St.put, St.at]

theorem boxCells_set {bs : List Box} {b : Nat} {cs : List AV} (h : boxCells bs b = some cs) (ds : List AV) (b' : Nat) : boxCells (bs.set b (.cells ds)) b' = if b' = b then some ds else boxCells bs b' := by
  have hb : b < bs.length := by
    rcases Nat.lt_or_ge b bs.length with h1 | h1
    · exact h1
    · simp [boxCells, List.getElem?_eq_none h1] at h
  simp only [boxCells, List.getElem?_set]
  by_cases e : b = b'
  · subst e; simp [hb, Box.cs?]
  · rw [if_neg e, if_neg (fun x => e x.symm)]
theorem boxCells_lt {bs : List Box} {b : Nat} {cs : List AV} (h : boxCells bs b = some cs) : b < bs.length := by
  rcases Nat.lt_or_ge b bs.length with h1 | h1
  · exact h1
  · simp [boxCells, List.getElem?_eq_none h1] at h
theorem boxCells_append (bs : List Box) (x : Box) (b : Nat) : boxCells (bs ++ [x]) b = if b = bs.length then x.cs? else boxCells bs b := by
  simp only [boxCells]
  by_cases h : b < bs.length
  · rw [List.getElem?_append_left h, if_neg (by omega)]
  · by_cases h2 : b = bs.length
    · subst h2; simp
    · rw [if_neg h2, List.getElem?_eq_none (by simp; omega), List.getElem?_eq_none (by omega)]

/-- where a call began: the blocks that it may turn, what it knew, the world, the number of its slots -/
structure Entry where
  FP : Nat → Prop
  M : Hp
  w : World
  nt : Nat
  nb : Nat
  σ0 : Nat → Nat

/-- what is known besides: the memory that stays as it is; where each box lies; which block a holder owns -/
structure Gh where
  M : Hp
  σ : Nat → Nat
  cl : Pl → Option Nat

def valAt (σ : Nat → Nat) (a : Act) (w : World) : Pl → Value
  | .sl t => a.tmps.getD t undef
  | .bx b j => (w.cell? ⟨σ b, j, none⟩).getD undef

/-- the mark of a loop's block of deferred calls -/
def mark (D : Nat) : Deferred := { target := .collected D, args := #[] }
/-- block B is no cells, and is known: a loop's record, or a loop's block of deferred calls (there are none) -/
def Spc (σ : Nat → Nat) (bs : List Box) (ds : List Deferred) (B : Nat) (o : Obj) : Prop := (∃ b x, boxLoop bs b = some x ∧ σ b = B ∧ o = x.obj) ∨ (mark B ∈ ds ∧ o = .deferred (some []))
structure Sp (FP : Nat → Prop) (w0 : World) (M : Hp) (σ : Nat → Nat) (cl : Pl → Option Nat) (bs : List Box) (ds : List Deferred) (w : World) : Prop where
  ob : ∀ B o, Spc σ bs ds B o → w.heap[B]? = some o ∧ (∀ p, cl p ≠ some B) ∧ (FP B ∨ w0.heap.size ≤ B)
  base : ∀ b x, boxLoop bs b = some x → x.M.le M ∧ x.n ≤ b ∧ ∀ c, c < x.n → σ c = x.σ c
  inj : ∀ b b' x x', boxLoop bs b = some x → boxLoop bs b' = some x' → σ b = σ b' → b = b'
  ds : ∃ Ds : List Nat, ds = Ds.map mark ∧ Ds.Nodup
theorem Spc.not_cells {σ : Nat → Nat} {bs : List Box} {ds : List Deferred} {B : Nat} {o : Obj} (h : Spc σ bs ds B o) : o.isCells = false := by
  rcases h with ⟨b, x, _, _, rfl⟩ | ⟨_, rfl⟩
  · exact x.obj_no
  · rfl
theorem boxLoop_lt {bs : List Box} {b : Nat} {x : LB} (h : boxLoop bs b = some x) : b < bs.length := by
  rcases Nat.lt_or_ge b bs.length with h1 | h1
  · exact h1
  · simp [boxLoop, List.getElem?_eq_none h1] at h
theorem boxLoop_nil {b : Nat} {x : LB} (h : boxLoop [] b = some x) : False := by simp [boxLoop] at h
theorem Sp.none (FP : Nat → Prop) (w0 : World) (M : Hp) (σ : Nat → Nat) (cl : Pl → Option Nat) (w : World) : Sp FP w0 M σ cl [] [] w :=
  ⟨fun B o h => (by rcases h with ⟨b, x, hb, _⟩ | ⟨h, _⟩; exact (boxLoop_nil hb).elim; cases h), fun b x hb => (boxLoop_nil hb).elim, fun b b' x x' hb => (boxLoop_nil hb).elim, [], rfl, .nil⟩
theorem Sp.step {FP FP' : Nat → Prop} {w0 w0' : World} {M M' : Hp} {σ σ' : Nat → Nat} {cl cl' : Pl → Option Nat} {bs bs' : List Box} {ds : List Deferred} {w w' : World} (h : Sp FP w0 M σ cl bs ds w) (hM : M.le M') (hσ : ∀ b, b < bs.length → σ' b = σ b)
    (hl : ∀ b x, boxLoop bs' b = some x → boxLoop bs b = some x) (hw : ∀ (B : Nat) (o : Obj), w.heap[B]? = some o → o.isCells = false → w'.heap[B]? = some o) (hcl : ∀ (B : Nat) (o : Obj), w.heap[B]? = some o → o.isCells = false → ∀ p, cl' p = some B → ∃ q, cl q = some B)
    (hm : ∀ B, FP B ∨ w0.heap.size ≤ B → FP' B ∨ w0'.heap.size ≤ B) : Sp FP' w0' M' σ' cl' bs' ds w' := by
  refine ⟨fun B o hs => ?_, fun b x hb => ?_, fun b b' x x' hb hb' e => ?_, h.ds⟩
  · have hs' : Spc σ bs ds B o := by
      rcases hs with ⟨b, x, hb, e, ho⟩ | hs
      · have := hl b x hb
        exact .inl ⟨b, x, this, by rw [← hσ b (boxLoop_lt this)]; exact e, ho⟩
      · exact .inr hs
    obtain ⟨h1, h2, h3⟩ := h.ob B o hs'
    refine ⟨hw B o h1 hs'.not_cells, fun p hp => ?_, hm B h3⟩
    obtain ⟨q, hq⟩ := hcl B o h1 hs'.not_cells p hp
    exact h2 q hq
  · have hb' := hl b x hb
    obtain ⟨h1, h2, h3⟩ := h.base b x hb'
    have := boxLoop_lt hb'
    exact ⟨Hp.le_trans h1 hM, h2, fun c hc => (hσ c (by omega)).trans (h3 c hc)⟩
  · have h1 := hl b x hb
    have h2 := hl b' x' hb'
    exact h.inj b b' x x' h1 h2 (by rw [← hσ b (boxLoop_lt h1), ← hσ b' (boxLoop_lt h2)]; exact e)
/-- the same world, the same memory -/
theorem Sp.loops {FP : Nat → Prop} {w0 : World} {M : Hp} {σ : Nat → Nat} {cl : Pl → Option Nat} {bs bs' : List Box} {ds : List Deferred} {w : World} (h : Sp FP w0 M σ cl bs ds w) (hl : ∀ b x, boxLoop bs' b = some x → boxLoop bs b = some x) : Sp FP w0 M σ cl bs' ds w :=
  h.step (Hp.le_refl _) (fun _ _ => rfl) hl (fun _ _ k _ => k) (fun _ _ _ _ p k => ⟨p, k⟩) (fun _ k => k)
theorem boxLoop_set {bs : List Box} {b : Nat} {cs : List AV} {c : Nat} {x : LB} (h : boxLoop (bs.set b (.cells cs)) c = some x) : boxLoop bs c = some x := by
  by_cases e : b = c
  · subst e
    by_cases hb : b < bs.length
    · simp [boxLoop, hb] at h
      cases h
    · simp [boxLoop, hb] at h
  · simp only [boxLoop, List.getElem?_set, if_neg e] at h
    exact h
theorem boxLoop_append {bs : List Box} {y : Box} (hy : y.lb? = none) {c : Nat} {x : LB} (h : boxLoop (bs ++ [y]) c = some x) : boxLoop bs c = some x := by
  simp only [boxLoop] at h ⊢
  by_cases h1 : c < bs.length
  · rwa [List.getElem?_append_left h1] at h
  · by_cases h2 : c = bs.length
    · subst h2; simp [hy] at h
    · rw [List.getElem?_eq_none (by simp; omega)] at h; cases h

/-- From (M, w) to (M', w') nothing that lay there has turned, but in the blocks of FP. -/
structure Fr (FP : Nat → Prop) (M : Hp) (w : World) (M' : Hp) (w' : World) : Prop where
  os : w'.os = w.os
  tape : w'.tape = w.tape
  output : w'.output = w.output
  size : w.heap.size ≤ w'.heap.size
  le : M.le M'
  heap : ∀ B, B < w.heap.size → ¬ FP B → w'.heap[B]? = w.heap[B]?
  mem : ∀ B, B < w.heap.size → ¬ FP B → ∀ o, M' B o = M B o

theorem Fr.refl (FP : Nat → Prop) (M : Hp) (w : World) : Fr FP M w M w := ⟨rfl, rfl, rfl, Nat.le_refl _, Hp.le_refl _, fun _ _ _ => rfl, fun _ _ _ _ => rfl⟩
theorem Fr.trans {FP FP' : Nat → Prop} {M M1 M2 : Hp} {w w1 w2 : World} (h : Fr FP M w M1 w1) (k : Fr FP' M1 w1 M2 w2) (hs : ∀ B, FP' B → FP B ∨ w.heap.size ≤ B) : Fr FP M w M2 w2 := by
  refine ⟨k.os.trans h.os, k.tape.trans h.tape, k.output.trans h.output, Nat.le_trans h.size k.size, Hp.le_trans h.le k.le, fun B hB hn => ?_, fun B hB hn o => ?_⟩
  · have : ¬ FP' B := fun e => by rcases hs B e with e | e; exact hn e; omega
    exact (k.heap B (by have := h.size; omega) this).trans (h.heap B hB hn)
  · have : ¬ FP' B := fun e => by rcases hs B e with e | e; exact hn e; omega
    exact (k.mem B (by have := h.size; omega) this o).trans (h.mem B hB hn o)

/-- a block that a holder owns: n elements of sz cells are there, k may be -/
structure Row (FP : Nat → Prop) (w0 : World) (M : Hp) (w : World) (B sz n k : Nat) : Prop where
  lt : n < k
  cells : ∃ (vs : Array Value) (T : TypeId), w.heap[B]? = some (.cells vs T (0, 0)) ∧ vs.size = k * sz
  free : ∀ o, n * sz ≤ o → M B o = none
  mine : FP B ∨ w0.heap.size ≤ B

structure RS (E : Entry) (G : Gh) (s : St) (a : Act) (w : World) : Prop where
  fr : Fr E.FP E.M E.w G.M w
  ok : G.M.le (Hp.of w)
  nt : a.tmps.size = E.nt
  val : ∀ p x, s.at p = some x → RV G.M G.σ s.bs.length x.deown (valAt G.σ a w p)
  one : ∀ b j x, s.at (.bx b j) = some x → (valAt G.σ a w (.bx b j)).oneCell' = true
  box : ∀ b cs, boxCells s.bs b = some cs → ∃ (vs : Array Value) (T : TypeId), w.heap[G.σ b]? = some (.cells vs T (0, 0)) ∧ cs.length ≤ vs.size
  bmem : ∀ b cs, boxCells s.bs b = some cs → (∀ o, G.M (G.σ b) o = none) ∧ (E.FP (G.σ b) ∨ E.w.heap.size ≤ G.σ b)
  inj : ∀ b b' cs cs', boxCells s.bs b = some cs → boxCells s.bs b' = some cs' → G.σ b = G.σ b' → b = b'
  own : ∀ p z l, s.at p = some (.sl (.own z) l) → ∃ ad k, valAt G.σ a w p = .slice ad l.length k ∧ (∀ y ∈ l, y.cells.length = z) ∧ (k = l.length ∨ ∃ B, G.cl p = some B ∧ ad = some ⟨B, 0, none⟩ ∧ Row E.FP E.w G.M w B z l.length k)
  clinj : ∀ p q B, G.cl p = some B → G.cl q = some B → p = q
  clbox : ∀ p B, G.cl p = some B → ∀ b cs, boxCells s.bs b = some cs → G.σ b ≠ B
  cllt : ∀ p B, G.cl p = some B → B < w.heap.size ∧ (E.FP B ∨ E.w.heap.size ≤ B)
  lo : s.lo = E.nb
  len : E.nb ≤ s.bs.length
  sig : ∀ b, b < E.nb → G.σ b = E.σ0 b
  sp : Sp E.FP E.w G.M G.σ G.cl s.bs a.defers w

section
variable {E : Entry} {G : Gh} {s : St} {a : Act} {w : World}

theorem RS.blt (h : RS E G s a w) {b : Nat} {cs : List AV} (hb : boxCells s.bs b = some cs) : G.σ b < w.heap.size := by
  obtain ⟨vs, T, h1, _⟩ := h.box b cs hb
  rcases Nat.lt_or_ge (G.σ b) w.heap.size with h2 | h2
  · exact h2
  · rw [Array.getElem?_eq_none (by omega)] at h1; cases h1

theorem cell_heap {w w' : World} {B : Nat} (h : w'.heap[B]? = w.heap[B]?) (o : Nat) : w'.cell? ⟨B, o, none⟩ = w.cell? ⟨B, o, none⟩ := by
  simp only [World.cell?, h]

/-- the same boxes, said otherwise -/
theorem RS.sameBoxes (h : RS E G s a w) {bs' : List Box} (hc : ∀ b, boxCells bs' b = boxCells s.bs b) (hl : ∀ b, boxLoop bs' b = boxLoop s.bs b) (hn : bs'.length = s.bs.length) : RS E G ⟨s.env, bs', s.lo⟩ a w := by
  have hat : ∀ p, (⟨s.env, bs', s.lo⟩ : St).at p = s.at p := fun p => by
    cases p with
    | sl t => rfl
    | bx b j => simp only [St.at, hc]
  exact ⟨h.fr, h.ok, h.nt, fun p x hp => by simp only [hn]; exact h.val p x (by rw [← hat]; exact hp), fun b j x hp => h.one b j x (by rw [← hat]; exact hp), fun b cs hb => h.box b cs (by rw [← hc]; exact hb), fun b cs hb => h.bmem b cs (by rw [← hc]; exact hb), fun b b' cs cs' hb hb' => h.inj b b' cs cs' (by rw [← hc]; exact hb) (by rw [← hc]; exact hb'), fun p z l hp => h.own p z l (by rw [← hat]; exact hp), h.clinj, fun p B hB b cs hb => h.clbox p B hB b cs (by rw [← hc]; exact hb), h.cllt, h.lo, by simp only [hn]; exact h.len, h.sig, h.sp.loops fun b x hb => by rw [← hl]; exact hb⟩

/-- The world grows; nothing that was there has turned. -/
theorem RS.grow (h : RS E G s a w) {M' : Hp} {w' : World} (hf : Fr (fun _ => False) G.M w M' w') (hok : M'.le (Hp.of w')) : RS E { G with M := M' } s a w' := by
  have hlt : ∀ B o v, G.M B o = some v → B < w.heap.size := fun B o v e => Hp.lt h.ok e
  have hmem : ∀ B, B < w.heap.size → ∀ o, M' B o = G.M B o := fun B hB o => hf.mem B hB (fun e => e) o
  have hheap : ∀ B, B < w.heap.size → w'.heap[B]? = w.heap[B]? := fun B hB => hf.heap B hB (fun e => e)
  have hval : ∀ p x, s.at p = some x → valAt G.σ a w' p = valAt G.σ a w p := fun p x hx => by
    cases p with
    | sl t => rfl
    | bx b j =>
      simp only [St.at] at hx
      cases hb : boxCells s.bs b with
      | none => rw [hb] at hx; cases hx
      | some cs => simp only [valAt]; rw [cell_heap (hheap _ (h.blt hb))]
  refine ⟨h.fr.trans hf (fun _ e => e.elim), hok, h.nt, fun p x hx => ?_, fun b j x hx => ?_, fun b cs hb => ?_, fun b cs hb => ?_, h.inj, fun p z l hp => ?_, h.clinj, h.clbox, fun p B hB => ?_, h.lo, h.len, h.sig, h.sp.step hf.le (fun _ _ => rfl) (fun _ _ k => k) (fun B o ho _ => (hheap B (Array.getElem?_eq_some_iff.1 ho).1).trans ho) (fun _ _ _ _ p k => ⟨p, k⟩) (fun _ k => k)⟩
  · show RV M' G.σ _ _ (valAt G.σ a w' p)
    rw [hval p x hx]
    exact (h.val p x hx).mono hf.le (Nat.le_refl _) (fun _ _ => rfl)
  · show (valAt G.σ a w' _).oneCell' = true
    rw [hval _ x hx]; exact h.one b j x hx
  · obtain ⟨vs, T, h1, h2⟩ := h.box b cs hb
    exact ⟨vs, T, (hheap _ (h.blt hb)).trans h1, h2⟩
  · obtain ⟨h1, h2⟩ := h.bmem b cs hb
    exact ⟨fun o => (hmem _ (h.blt hb) o).trans (h1 o), h2⟩
  · obtain ⟨ad, k, h1, hz, h2⟩ := h.own p z l hp
    refine ⟨ad, k, (hval p _ hp).trans h1, hz, ?_⟩
    rcases h2 with h2 | ⟨B, hB, had, hrow⟩
    · exact .inl h2
    · have hB' := (h.cllt p B hB).1
      obtain ⟨vs, T, h3, h4⟩ := hrow.cells
      exact .inr ⟨B, hB, had, hrow.lt, ⟨vs, T, (hheap _ hB').trans h3, h4⟩, fun o ho => (hmem _ hB' o).trans (hrow.free o ho), hrow.mine⟩
  · obtain ⟨h1, h2⟩ := h.cllt p B hB
    exact ⟨Nat.lt_of_lt_of_le h1 hf.size, h2⟩

theorem RS.drew (h : RS E G s a w) : RS E G s a { w with drawn := w.drawn + 1 } :=
  h.grow (M' := G.M) ⟨rfl, rfl, rfl, Nat.le_refl _, Hp.le_refl _, fun _ _ _ => rfl, fun _ _ _ _ => rfl⟩ h.ok

theorem valAt_put {σ : Nat → Nat} (a : Act) (w : World) (k : Nat) (v : Value) (p : Pl) (hk : k < a.tmps.size) : valAt σ (a.put (some k) v) w p = if p = .sl k then v else valAt σ a w p := by
  cases p with
  | sl t =>
    simp only [valAt, Act.put]
    by_cases h : t = k
    · subst h; simp [hk]
    · rw [if_neg (by simpa using h)]
      simp [Array.getElem?_setIfInBounds_ne (Ne.symm h)]
  | bx b j => simp [valAt]

/-- a value that owns nothing, into a slot -/
theorem RS.put (h : RS E G s a w) {k : Nat} (hk : k < E.nt) {x : AV} {v : Value} (hx : RV G.M G.σ s.bs.length x v) : RS E G (s.put (some k) x) (a.put (some k) v) w := by
  have hk' : k < a.tmps.size := by rw [h.nt]; exact hk
  have hbs : (s.put (some k) x).bs = s.bs := rfl
  refine ⟨h.fr, h.ok, ?_, fun p y hy => ?_, fun b j y hy => ?_, h.box, h.bmem, h.inj, fun p z l hp => ?_, h.clinj, h.clbox, h.cllt, h.lo, h.len, h.sig, h.sp⟩
  · simp [Act.put, h.nt]
  · rw [St.at_put] at hy
    rw [valAt_put a w k v p hk']
    by_cases hp : p = .sl k
    · rw [if_pos hp] at hy ⊢
      cases hy
      rw [hx.deown_of]; exact hx
    · rw [if_neg hp] at hy ⊢
      exact h.val p y hy
  · rw [St.at_put, if_neg (by simp)] at hy
    rw [valAt_put a w k v _ hk', if_neg (by simp)]
    exact h.one b j y hy
  · rw [St.at_put] at hp
    rw [valAt_put a w k v p hk']
    by_cases hpk : p = .sl k
    · rw [if_pos hpk] at hp
      cases hp
      have := hx.deown_of
      simp [AV.deown] at this
    · rw [if_neg hpk] at hp ⊢
      exact h.own p z l hp

theorem RS.put' (h : RS E G s a w) {d : Option Nat} (hd : ∀ k, d = some k → k < E.nt) {x : AV} {v : Value} (hx : RV G.M G.σ s.bs.length x v) : RS E G (s.put d x) (a.put d v) w := by
  cases d with
  | none => exact h
  | some k => exact h.put (hd k rfl) hx

theorem St.at_upd (s : St) {q : Pl} {y : AV} (hq : s.at q = some y) (x : AV) (p : Pl) : (s.upd q x).at p = if p = q then some x else s.at p := by
  cases q with
  | sl t => exact St.at_put s t x p
  | bx b j =>
    simp only [St.at] at hq
    cases hb : boxCells s.bs b with
    | none => rw [hb] at hq; cases hq
    | some cs =>
      rw [hb] at hq
      simp only [Option.bind_some] at hq
      simp only [St.upd, hb]
      cases p with
      | sl t => simp [St.at, St.setBox]
      | bx b' j' =>
        simp only [St.at, St.setBox, boxCells_set hb]
        by_cases e : b' = b
        · subst e
          rw [if_pos rfl]
          simp only [Option.bind_some, List.getElem?_set]
          have hj : j < cs.length := by
            rcases Nat.lt_or_ge j cs.length with h1 | h1
            · exact h1
            · rw [List.getElem?_eq_none h1] at hq; cases hq
          by_cases e2 : j = j'
          · subst e2; simp [hj]
          · rw [if_neg e2, if_neg (by simpa using fun x => e2 x.symm), hb]; rfl
        · rw [if_neg e, if_neg (by simp [e])]

theorem St.upd_len (s : St) (q : Pl) (x : AV) : (s.upd q x).bs.length = s.bs.length := by
  cases q with
  | sl t => rfl
  | bx b j =>
    simp only [St.upd]
    cases boxCells s.bs b <;> simp [St.setBox]

theorem St.upd_lo (s : St) (q : Pl) (x : AV) : (s.upd q x).lo = s.lo := by
  cases q with
  | sl t => rfl
  | bx b j =>
    simp only [St.upd]
    cases boxCells s.bs b <;> rfl

theorem St.upd_box (s : St) (q : Pl) (x : AV) (b : Nat) (cs : List AV) (h : boxCells (s.upd q x).bs b = some cs) : ∃ ds, boxCells s.bs b = some ds ∧ ds.length = cs.length := by
  cases q with
  | sl t => exact ⟨cs, h, rfl⟩
  | bx c j =>
    simp only [St.upd] at h
    cases hb : boxCells s.bs c with
    | none => rw [hb] at h; exact ⟨cs, h, rfl⟩
    | some es =>
      rw [hb] at h
      simp only [St.setBox, boxCells_set hb] at h
      by_cases e : b = c
      · subst e
        rw [if_pos rfl] at h
        cases h
        exact ⟨es, hb, by simp⟩
      · rw [if_neg e] at h
        exact ⟨cs, h, rfl⟩

theorem St.upd_loop {s : St} {q : Pl} {x : AV} {b : Nat} {y : LB} (h : boxLoop (s.upd q x).bs b = some y) : boxLoop s.bs b = some y := by
  cases q with
  | sl t => exact h
  | bx c j =>
    simp only [St.upd] at h
    cases hb : boxCells s.bs c with
    | none => rw [hb] at h; exact h
    | some es => rw [hb] at h; exact boxLoop_set h

/-- A holder's knowledge turns: what is held reads as before, in the new words; nobody owns more than before. -/
theorem RS.upd (h : RS E G s a w) {q : Pl} {y x : AV} (hq : s.at q = some y) (hx : RV G.M G.σ s.bs.length x (valAt G.σ a w q)) : RS E G (s.upd q x) a w := by
  refine ⟨h.fr, h.ok, h.nt, fun p u hu => ?_, fun b j u hu => ?_, fun b cs hb => ?_, fun b cs hb => ?_, fun b b' cs cs' hb hb' e => ?_, fun p z l hp => ?_, h.clinj, fun p B hB b cs hb => ?_, h.cllt, (St.upd_lo s q x).trans h.lo, by rw [St.upd_len]; exact h.len, h.sig, h.sp.loops fun _ _ k => St.upd_loop k⟩
  · rw [St.at_upd s hq] at hu
    rw [St.upd_len]
    by_cases hp : p = q
    · rw [if_pos hp] at hu; cases hu
      rw [hx.deown_of, hp]; exact hx
    · rw [if_neg hp] at hu; exact h.val p u hu
  · rw [St.at_upd s hq] at hu
    by_cases hp : Pl.bx b j = q
    · rw [if_pos hp] at hu; exact h.one b j y (hp ▸ hq)
    · rw [if_neg hp] at hu; exact h.one b j u hu
  · obtain ⟨ds, h1, h2⟩ := s.upd_box q x b cs hb
    obtain ⟨vs, T, h3, h4⟩ := h.box b ds h1
    exact ⟨vs, T, h3, Nat.le_trans (by omega) h4⟩
  · obtain ⟨ds, h1, h2⟩ := s.upd_box q x b cs hb
    exact h.bmem b ds h1
  · obtain ⟨ds, h1, _⟩ := s.upd_box q x b cs hb
    obtain ⟨ds', h1', _⟩ := s.upd_box q x b' cs' hb'
    exact h.inj b b' ds ds' h1 h1' e
  · rw [St.at_upd s hq] at hp
    by_cases hpq : p = q
    · rw [if_pos hpq] at hp; cases hp
      have := hx.deown_of
      simp [AV.deown] at this
    · rw [if_neg hpq] at hp; exact h.own p z l hp
  · obtain ⟨ds, h1, _⟩ := s.upd_box q x b cs hb
    exact h.clbox p B hB b ds h1

/-- Two hold the same slice, the one owns it: the other takes over. -/
theorem RS.move (h : RS E G s a w) {p q : Pl} {z : Nat} {l : List AV} {o : Cap} (hpq : p ≠ q) (hp : s.at p = some (.sl (.own z) l)) (hq : s.at q = some (.sl o l))
    (he : valAt G.σ a w q = valAt G.σ a w p) : RS E { G with cl := fun r => if r = q then G.cl p else if r = p then none else G.cl r } ((s.upd p (.sl .no l)).upd q (.sl (.own z) l)) a w := by
  have hvp := h.val p _ hp
  have h1 : RS E G (s.upd p (.sl .no l)) a w := h.upd hp hvp
  have hq1 : (s.upd p (.sl .no l)).at q = some (.sl o l) := by rw [St.at_upd s hp, if_neg (Ne.symm hpq)]; exact hq
  have hat : ∀ r, ((s.upd p (.sl .no l)).upd q (.sl (.own z) l)).at r = if r = q then some (.sl (.own z) l) else if r = p then some (.sl .no l) else s.at r := fun r => by
    rw [St.at_upd _ hq1, St.at_upd s hp]
  have hbox : ∀ b cs, boxCells ((s.upd p (.sl .no l)).upd q (.sl (.own z) l)).bs b = some cs → ∃ ds, boxCells s.bs b = some ds ∧ ds.length = cs.length := fun b cs hb => by
    obtain ⟨ds, h2, h3⟩ := St.upd_box _ q _ b cs hb
    obtain ⟨es, h4, h5⟩ := St.upd_box s p _ b ds h2
    exact ⟨es, h4, h5.trans h3⟩
  have hlen : ((s.upd p (.sl .no l)).upd q (.sl (.own z) l)).bs.length = s.bs.length := by rw [St.upd_len, St.upd_len]
  refine ⟨h.fr, h.ok, h.nt, fun r u hu => ?_, fun b j u hu => ?_, fun b cs hb => ?_, fun b cs hb => ?_, fun b b' cs cs' hb hb' e => ?_, fun r z' l' hr => ?_, fun r r' B hr hr' => ?_, fun r B hB b cs hb => ?_, fun r B hB => ?_, (St.upd_lo _ q _).trans ((St.upd_lo s p _).trans h.lo), by rw [hlen]; exact h.len, h.sig, h.sp.step (Hp.le_refl _) (fun _ _ => rfl) (fun _ _ k => St.upd_loop (St.upd_loop k)) (fun _ _ k _ => k) (fun B _ _ _ r k => ?_) (fun _ k => k)⟩
  · rw [hat] at hu
    rw [hlen]
    by_cases hr : r = q
    · rw [if_pos hr] at hu; cases hu
      subst hr
      rw [he]; exact hvp
    · rw [if_neg hr] at hu
      by_cases hr2 : r = p
      · rw [if_pos hr2] at hu; cases hu
        subst hr2; exact hvp
      · rw [if_neg hr2] at hu; exact h.val r u hu
  · rw [hat] at hu
    by_cases hr : Pl.bx b j = q
    · exact h.one b j _ (hr ▸ hq)
    · rw [if_neg hr] at hu
      by_cases hr2 : Pl.bx b j = p
      · exact h.one b j _ (hr2 ▸ hp)
      · rw [if_neg hr2] at hu; exact h.one b j u hu
  · obtain ⟨ds, h2, h3⟩ := hbox b cs hb
    obtain ⟨vs, T, h4, h5⟩ := h.box b ds h2
    exact ⟨vs, T, h4, Nat.le_trans (by omega) h5⟩
  · obtain ⟨ds, h2, h3⟩ := hbox b cs hb
    exact h.bmem b ds h2
  · obtain ⟨ds, h2, h3⟩ := hbox b cs hb
    obtain ⟨ds', h2', h3'⟩ := hbox b' cs' hb'
    exact h.inj b b' ds ds' h2 h2' e
  · rw [hat] at hr
    by_cases hrq : r = q
    · rw [if_pos hrq] at hr
      cases hr
      obtain ⟨ad, k, h2, hz, h3⟩ := h.own p z l hp
      refine ⟨ad, k, by rw [hrq]; exact he.trans h2, hz, ?_⟩
      rcases h3 with h3 | ⟨B, hB, h4, h5⟩
      · exact .inl h3
      · exact .inr ⟨B, by simp only [hrq, if_true]; exact hB, h4, h5⟩
    · rw [if_neg hrq] at hr
      by_cases hrp : r = p
      · rw [if_pos hrp] at hr; cases hr
      · rw [if_neg hrp] at hr
        obtain ⟨ad, k, h2, hz, h3⟩ := h.own r z' l' hr
        refine ⟨ad, k, h2, hz, ?_⟩
        rcases h3 with h3 | ⟨B, hB, h4, h5⟩
        · exact .inl h3
        · exact .inr ⟨B, by simp only [hrq, hrp, if_false]; exact hB, h4, h5⟩
  · simp only at hr hr'
    by_cases hrq : r = q
    · rw [if_pos hrq] at hr
      by_cases hrq' : r' = q
      · rw [hrq, hrq']
      · rw [if_neg hrq'] at hr'
        by_cases hrp' : r' = p
        · rw [if_pos hrp'] at hr'; cases hr'
        · rw [if_neg hrp'] at hr'
          exact absurd (h.clinj _ _ B hr' hr) hrp'
    · rw [if_neg hrq] at hr
      by_cases hrp : r = p
      · rw [if_pos hrp] at hr; cases hr
      · rw [if_neg hrp] at hr
        by_cases hrq' : r' = q
        · rw [if_pos hrq'] at hr'
          exact absurd (h.clinj _ _ B hr hr') hrp
        · rw [if_neg hrq'] at hr'
          by_cases hrp' : r' = p
          · rw [if_pos hrp'] at hr'; cases hr'
          · rw [if_neg hrp'] at hr'
            exact h.clinj _ _ B hr hr'
  · obtain ⟨ds, h2, h3⟩ := hbox b cs hb
    simp only at hB
    by_cases hrq : r = q
    · rw [if_pos hrq] at hB; exact h.clbox p B hB b ds h2
    · rw [if_neg hrq] at hB
      by_cases hrp : r = p
      · rw [if_pos hrp] at hB; cases hB
      · rw [if_neg hrp] at hB; exact h.clbox r B hB b ds h2
  · simp only at hB
    by_cases hrq : r = q
    · rw [if_pos hrq] at hB; exact h.cllt p B hB
    · rw [if_neg hrq] at hB
      by_cases hrp : r = p
      · rw [if_pos hrp] at hB; cases hB
      · rw [if_neg hrp] at hB; exact h.cllt r B hB
  · simp only at k
    by_cases hrq : r = q
    · rw [if_pos hrq] at k; exact ⟨p, k⟩
    · rw [if_neg hrq] at k
      by_cases hrp : r = p
      · rw [if_pos hrp] at k; cases k
      · rw [if_neg hrp] at k; exact ⟨r, k⟩

/-- what is no longer of use, forgotten; the boxes from n on, forgotten -/
theorem RS.forget (h : RS E G s a w) {s' : St} {n : Nat} (hn : s'.bs.length = n) (hlo : s'.lo = s.lo) (hlon : s.lo ≤ n) (hat : ∀ p x, s'.at p = some x → s.at p = some x ∧ x.lt n = true)
    (hb : ∀ b cs, boxCells s'.bs b = some cs → boxCells s.bs b = some cs) (hbl : ∀ b x, boxLoop s'.bs b = some x → boxLoop s.bs b = some x) : RS E G s' a w := by
  subst hn
  refine ⟨h.fr, h.ok, h.nt, fun p x hx => ?_, fun b j x hx => h.one b j x (hat _ _ hx).1, fun b cs k => h.box b cs (hb _ _ k), fun b cs k => h.bmem b cs (hb _ _ k), fun b b' cs cs' k k' => h.inj b b' cs cs' (hb _ _ k) (hb _ _ k'), fun p z l hp => h.own p z l (hat _ _ hp).1, h.clinj, fun p B hB b cs k => h.clbox p B hB b cs (hb _ _ k), h.cllt, hlo.trans h.lo, by rw [← h.lo]; exact hlon, h.sig, h.sp.loops hbl⟩
  obtain ⟨h1, h2⟩ := hat p x hx
  exact (h.val p x h1).lt (by rw [lt_deown]; exact h2)

/-- a slot's slice owns nothing: it may be said to own what it has -/
theorem RS.claim (h : RS E G s a w) {p : Pl} {l : List AV} (hp : s.at p = some (.sl .full l)) {z : Nat} (hz : ∀ y ∈ l, y.cells.length = z) : RS E G (s.upd p (.sl (.own z) l)) a w := by
  have hv := h.val p _ hp
  simp only [AV.deown] at hv
  refine ⟨h.fr, h.ok, h.nt, fun r u hu => ?_, fun b j u hu => ?_, fun b cs hb => ?_, fun b cs hb => ?_, fun b b' cs cs' hb hb' e => ?_, fun r z' l' hr => ?_, h.clinj, fun r B hB b cs hb => ?_, h.cllt, (St.upd_lo s p _).trans h.lo, by rw [St.upd_len]; exact h.len, h.sig, h.sp.loops fun _ _ k => St.upd_loop k⟩
  · rw [St.at_upd s hp] at hu
    rw [St.upd_len]
    by_cases hr : r = p
    · rw [if_pos hr] at hu; cases hu
      rw [hr]; exact hv.norm1
    · rw [if_neg hr] at hu; exact h.val r u hu
  · rw [St.at_upd s hp] at hu
    by_cases hr : Pl.bx b j = p
    · exact h.one b j _ (hr ▸ hp)
    · rw [if_neg hr] at hu; exact h.one b j u hu
  · obtain ⟨ds, h1, h2⟩ := s.upd_box p _ b cs hb
    obtain ⟨vs, T, h3, h4⟩ := h.box b ds h1
    exact ⟨vs, T, h3, Nat.le_trans (by omega) h4⟩
  · obtain ⟨ds, h1, h2⟩ := s.upd_box p _ b cs hb
    exact h.bmem b ds h1
  · obtain ⟨ds, h1, _⟩ := s.upd_box p _ b cs hb
    obtain ⟨ds', h1', _⟩ := s.upd_box p _ b' cs' hb'
    exact h.inj b b' ds ds' h1 h1' e
  · rw [St.at_upd s hp] at hr
    by_cases hrp : r = p
    · rw [if_pos hrp] at hr; cases hr
      obtain ⟨ad, k, B, off, sz, h1, _, _, _, h2, _⟩ := hv.inv_sl
      exact ⟨ad, k, by rw [hrp]; exact h1, hz, .inl (h2 rfl)⟩
    · rw [if_neg hrp] at hr; exact h.own r z' l' hr
  · obtain ⟨ds, h1, _⟩ := s.upd_box p _ b cs hb
    exact h.clbox r B hB b ds h1
end
end Go.AM

