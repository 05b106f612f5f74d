/-
  Texts of this claim joined (wip/gen/bundle.py), those declarations only that are needed: Base AmV. By an AI agent.
-/
import Derived.WalkKit
import Derived.WalkSpells
import Derived.WalkLawsBesides
import Derived.Lib.Hide
import Derived.RangeFuncMany
set_option linter.unusedSimpArgs false
set_option linter.unusedVariables false
namespace Go.CK
open Go.RowKit
/-- what a string or a slice may hold; glim: what a call may build -/
def lim : Nat := 9223372036854775807
def glim : Nat := 4294967296
theorem glim_le {n : Nat} (h : n ≤ glim) : n ≤ lim := by unfold glim at h; unfold lim; omega
def IntOk (n : Int) : Prop := -9223372036854775808 ≤ n ∧ n ≤ 9223372036854775807
theorem IntOk.of_wf {n : Int} (h : (Lit.int .i64 n).wf = true) : IntOk n := by
 simpa [Lit.wf, IntKind.min, IntKind.max, IntKind.signed, IntKind.bits, IntOk] using h
structure Ext (w w' : World) : Prop where
 bel : Below w.heap.size w w'
theorem Ext.refl (w : World) : Ext w w := ⟨Below.refl _ _⟩
theorem Ext.size {w w' : World} (h : Ext w w') : w.heap.size ≤ w'.heap.size := h.bel.size
theorem Ext.alloc {a b : World} (h : Ext a b) (o : Obj) : Ext a (b.alloc o) := ⟨h.bel.alloc h.size o⟩
theorem Ext.cell {a b : World} (h : Ext a b) {p : Addr} {v : Value} (hv : a.cell? p = some v) : b.cell? p = some v := by
 rw [h.bel.cell (World.block_lt_of_cell? a p hv)]; exact hv
abbrev Hp := Nat -> Nat -> Option Value
def Hp.le (H H' : Hp) : Prop := ∀ b o v, H b o = some v -> H' b o = some v
def Hp.of (w : World) : Hp := fun b o => w.cell? ⟨b, o, none⟩
def Hp.plus (H : Hp) (w w' : World) : Hp := fun b o => if w.heap.size ≤ b then w'.cell? ⟨b, o, none⟩ else H b o
def Hp.row (H : Hp) (w w' : World) (v : Value) : Hp := fun b o => if v.ownBlock = some b then none else H.plus w w' b o
theorem Hp.le_refl (H : Hp) : H.le H := fun _ _ _ h => h
theorem Hp.le_trans {A B C : Hp} (h : A.le B) (k : B.le C) : A.le C := fun _ _ _ x => k _ _ _ (h _ _ _ x)
theorem Hp.lt {H : Hp} {w : World} (h : H.le (Hp.of w)) {b o : Nat} {v : Value} (hv : H b o = some v) : b < w.heap.size := World.block_lt_of_cell? w _ (h _ _ _ hv)
theorem Hp.of_ext {w w' : World} (h : Ext w w') : (Hp.of w).le (Hp.of w') := fun _ _ _ x => h.cell x
theorem Hp.ext {H : Hp} {w w' : World} (hH : H.le (Hp.of w)) (h : Ext w w') : H.le (Hp.of w') := Hp.le_trans hH (Hp.of_ext h)
structure Sl {α : Type} (H : Hp) (sz : Nat) (R : List Value -> α -> Prop) (a : Option Addr) (l : List α) : Prop where
 le : l.length ≤ lim
 at_ : ∀ i (h : i < l.length), ∃ b o cs, a = some ⟨b, o, none⟩ ∧ cs.length = sz ∧ (∀ j x, cs[j]? = some x -> H b (o + i * sz + j) = some x) ∧ R cs l[i]
theorem Sl.nil {α : Type} {H : Hp} {sz : Nat} {R : List Value -> α -> Prop} {a : Option Addr} : Sl H sz R a ([] : List α) := ⟨by simp, fun i hi => by cases hi⟩
theorem Sl.addr {α : Type} {H : Hp} {sz : Nat} {R : List Value -> α -> Prop} {a : Option Addr} {l : List α} (h : Sl H sz R a l) (hl : 0 < l.length) : ∃ b o, a = some ⟨b, o, none⟩ :=
 let ⟨b, o, _, h1, _⟩ := h.at_ 0 hl; ⟨b, o, h1⟩
section
variable {α : Type} {H : Hp} {w0 w : World} {e : TypeId} {sz : Nat} {R : Hp -> List Value -> α -> Prop} {v : Value} {l : List α}
end
section
variable {α : Type} {H : Hp} {w0 w : World} {e : TypeId} {sz : Nat} {R : Hp -> List Value -> α -> Prop} {l : List α} {g cap : Nat}
end
theorem cell_set (w : World) (b j b' j' : Nat) (v : Value) : (w.setCell ⟨b, j, none⟩ v).cell? ⟨b', j', none⟩ = if b = b' ∧ j = j' then (if (w.cell? ⟨b, j, none⟩).isSome then some v else none) else w.cell? ⟨b', j', none⟩ := by
 split
 ·rename_i h; obtain ⟨rfl, rfl⟩ := h; split
  ·rename_i hs; exact World.cell?_setCell_same' _ _ _ hs
  ·rename_i hs; have hn : w.cell? ⟨b, j, none⟩ = none := by simpa using hs
   cases hq : (w.setCell ⟨b, j, none⟩ v).cell? ⟨b, j, none⟩ with
   | none => rfl
   | some u =>
    exfalso; revert hq; simp only [World.cell?, World.setCell, Array.getElem?_modify] at hn ⊢
    cases hb : w.heap[b]? with
    | none => simp
    | some o =>
     rw [hb] at hn; cases o <;> simp_all
 ·rename_i h; exact World.cell?_setCell_other _ _ _ _ (by simp; exact fun e => fun f => h ⟨e, f⟩)
end Go.CK
namespace Go.AM
open Go.CK Go.RowKit
inductive Cap where
 | no
 | full
 | own (sz : Nat)
deriving DecidableEq
inductive AV where
 | top
 | bool (b : Bool)
 | int (k : IntKind) (n : Int)
 | str (s : ByteArray)
 | sl (o : Cap) (l : List AV)
 | agg (cs : List AV)
 | tup (vs : List AV)
 | ptr (b off : Nat)
 | nptr
 | ept (cs : List AV)
 | fn (f : Fn) (first caps : List AV)
 | yl (b : Nat)
 | bsl (b m k : Nat)
 | elp (b i z off : Nat)
 | mpt (b : Nat)
 | nfn
 | nmp
 | nifc
 | lit (a : Option Addr) (n k : Nat)
deriving Inhabited
namespace AV
def cells : AV -> List AV
 | .agg cs => cs
 | v => [v]
def isAgg : AV -> Bool
 | .agg _ => true
 | _ => false
def deown : AV -> AV
 | .sl (.own _) l => .sl .no l
 | v => v
def flat1 : AV -> Bool
 | .top | .bool _ | .int .. | .str _ | .nptr | .nfn | .nmp | .nifc | .lit .. => true
 | .sl (.own _) _ => false
 | .sl _ _ => true
 | _ => false
def flat : AV -> Bool
 | .agg cs => cs.all flat1
 | v => v.flat1
def norm1 : AV -> AV
 | .sl _ l => .sl .no l
 | v => v
def norm : AV -> AV
 | .agg cs => .agg (cs.map norm1)
 | v => v.norm1
def lt0 (n : Nat) : AV -> Bool
 | .ptr b _ => decide (b < n)
 | .yl b => decide (b < n)
 | .bsl b _ _ => decide (b < n)
 | .elp b _ _ _ => decide (b < n)
 | .mpt b => decide (b < n)
 | .ept _ => true
 | v => v.flat1
def lt1 (n : Nat) : AV -> Bool
 | .fn _ xs ys => xs.all (lt0 n) && ys.all (lt0 n)
 | v => v.lt0 n
def lt2 (n : Nat) : AV -> Bool
 | .agg cs => cs.all (lt1 n)
 | v => v.lt1 n
def lt (n : Nat) : AV -> Bool
 | .agg cs => cs.all (lt1 n)
 | .tup cs => cs.all (lt2 n)
 | .ept _ => true
 | .sl _ _ => true
 | v => v.lt1 n
end AV
inductive FV (M : Hp) : AV -> Value -> Prop
 | top (v : Value) : FV M .top v
 | bool (b : Bool) : FV M (.bool b) (.bool b)
 | int (k : IntKind) (n : Int) : FV M (.int k n) (.int k n)
 | str (s : ByteArray) (h : s.size ≤ lim) : FV M (.str s) (.string s)
 | sl (o : Cap) (l : List AV) (a : Option Addr) (k B off sz : Nat) (ho : ∀ z, o ≠ .own z) (hk : l.length ≤ k) (hl : l.length ≤ lim) (hf : o = .full -> k = l.length)
   (ha : l ≠ [] -> a = some ⟨B, off, none⟩) (hz : ∀ i (h : i < l.length), l[i].cells.length = sz)
   (hm : ∀ i, i < l.length -> ∀ j, j < sz -> ∃ v, M B (off + i * sz + j) = some v ∧ v.oneCell' = true)
   (hv : ∀ i (h : i < l.length) j (hj : j < l[i].cells.length) v, M B (off + i * sz + j) = some v -> FV M (l[i].cells[j]) v) : FV M (.sl o l) (.slice a l.length k)
 | agg (cs : List AV) (vs : List Value) (hl : vs.length = cs.length) (h1 : ∀ v ∈ vs, v.oneCell' = true)
   (hv : ∀ j (h : j < cs.length) v, vs[j]? = some v -> FV M cs[j] v) : FV M (.agg cs) (.agg vs.toArray)
 | nptr : FV M .nptr (.pointer none)
 | nfn : FV M .nfn .nilFunc
 | nmp : FV M .nmp (.map none)
 | nifc : FV M .nifc .nilIface
 | lit (a : Option Addr) (n k : Nat) : FV M (.lit a n k) (.slice a n k)
def Cells (M : Hp) (B off : Nat) (cs : List AV) : Prop := ∀ j (h : j < cs.length), ∃ v, M B (off + j) = some v ∧ v.oneCell' = true ∧ FV M cs[j] v
def Elems (M : Hp) (B off sz : Nat) (l : List AV) : Prop := ∀ i (h : i < l.length), l[i].cells.length = sz ∧ Cells M B (off + i * sz) l[i].cells
theorem FV.mono {M M' : Hp} (hM : M.le M') {x : AV} {v : Value} (h : FV M x v) : FV M' x v := by
 induction h with
 | top v => exact .top v
 | bool b => exact .bool b
 | int k n => exact .int k n
 | str s h => exact .str s h
 | sl o l a k B off sz ho hk hl hf ha hz hm hv ih =>
  refine .sl o l a k B off sz ho hk hl hf ha hz (fun i hi j hj => let ⟨v, h1, h2⟩ := hm i hi j hj; ⟨v, hM _ _ _ h1, h2⟩) (fun i hi j hj v hv' => ?_); obtain ⟨v0, h1, _⟩ := hm i hi j (by rw [← hz i hi]; exact hj)
  have := hM _ _ _ h1; rw [this] at hv'; cases hv'
  exact ih i hi j hj _ h1
 | agg cs vs hl h1 hv ih => exact .agg cs vs hl h1 ih
 | nptr => exact .nptr
 | nfn => exact .nfn
 | nmp => exact .nmp
 | nifc => exact .nifc
 | lit a n k => exact .lit a n k
theorem Cells.mono {M M' : Hp} (hM : M.le M') {B off : Nat} {cs : List AV} (h : Cells M B off cs) : Cells M' B off cs :=
 fun j hj => let ⟨v, h1, h2, h3⟩ := h j hj; ⟨v, hM _ _ _ h1, h2, h3.mono hM⟩
theorem Cells.drop {M : Hp} {B off : Nat} {cs : List AV} (h : Cells M B off cs) (k : Nat) : Cells M B (off + k) (cs.drop k) := fun j hj => by
 simp only [List.length_drop] at hj; obtain ⟨v, h1, h2, h3⟩ := h (k + j) (by omega)
 exact ⟨v, by rw [Nat.add_assoc]; exact h1, h2, by rw [List.getElem_drop]; exact h3⟩
theorem FV.mk_sl {M : Hp} {o : Cap} {l : List AV} {a : Option Addr} {k B off sz : Nat} (ho : ∀ z, o ≠ .own z) (hk : l.length ≤ k) (hl : l.length ≤ lim) (hf : o = .full -> k = l.length)
  (ha : l ≠ [] -> a = some ⟨B, off, none⟩) (he : Elems M B off sz l) : FV M (.sl o l) (.slice a l.length k) := by
 refine .sl o l a k B off sz ho hk hl hf ha (fun i h => (he i h).1) (fun i hi j hj => ?_) (fun i hi j hj v hv => ?_)
 ·obtain ⟨h1, h2⟩ := he i hi; obtain ⟨v, h3, h4, _⟩ := h2 j (by omega)
  exact ⟨v, h3, h4⟩
 ·obtain ⟨h1, h2⟩ := he i hi; obtain ⟨v', h3, _, h5⟩ := h2 j hj; rw [h3] at hv; cases hv; exact h5
theorem FV.inv_sl {M : Hp} {o : Cap} {l : List AV} {v : Value} (h : FV M (.sl o l) v) :
  ∃ a k B off sz, v = .slice a l.length k ∧ (∀ z, o ≠ .own z) ∧ l.length ≤ k ∧ l.length ≤ lim ∧ (o = .full -> k = l.length) ∧ (l ≠ [] -> a = some ⟨B, off, none⟩) ∧ Elems M B off sz l := by
 cases h with
 | sl _ _ a k B off sz ho hk hl hf ha hz hm hv =>
  refine ⟨a, k, B, off, sz, rfl, ho, hk, hl, hf, ha, fun i hi => ⟨hz i hi, fun j hj => ?_⟩⟩; obtain ⟨v, h1, h2⟩ := hm i hi j (by rw [← hz i hi]; exact hj)
  exact ⟨v, h1, h2, hv i hi j hj v h1⟩
inductive RV (M : Hp) (σ : Nat -> Nat) (n : Nat) : AV -> Value -> Prop
 | flat {x : AV} {v : Value} (h : FV M x v) : RV M σ n x v
 | agg (cs : List AV) (vs : List Value) (hl : vs.length = cs.length) (h1 : ∀ v ∈ vs, v.oneCell' = true)
   (hv : ∀ j (h : j < cs.length) v, vs[j]? = some v -> RV M σ n cs[j] v) : RV M σ n (.agg cs) (.agg vs.toArray)
 | tup (cs : List AV) (vs : List Value) (hl : vs.length = cs.length)
   (hv : ∀ j (h : j < cs.length) v, vs[j]? = some v -> RV M σ n cs[j] v) : RV M σ n (.tup cs) (.tuple vs.toArray)
 | ptr (b off : Nat) (h : b < n) : RV M σ n (.ptr b off) (.pointer (some ⟨σ b, off, none⟩))
 | ept (cs : List AV) (B off : Nat) (h : Cells M B off cs) : RV M σ n (.ept cs) (.pointer (some ⟨B, off, none⟩))
 | fn (f : Fn) (xs ys : List AV) (us vs : List Value) (h1 : us.length = xs.length) (h2 : vs.length = ys.length)
   (hx : ∀ j (h : j < xs.length) v, us[j]? = some v -> RV M σ n xs[j] v) (hy : ∀ j (h : j < ys.length) v, vs[j]? = some v -> RV M σ n ys[j] v) :
   RV M σ n (.fn f xs ys) (.func f us.toArray vs.toArray)
 | yl (b : Nat) (h : b < n) : RV M σ n (.yl b) (.func (.yield (σ b)) #[] #[])
 | bsl (b m k : Nat) (a : Option Addr) (h : b < n) (hk : m ≤ k) (hl : m ≤ glim) (ha : k ≠ 0 -> a = some ⟨σ b, 0, none⟩) : RV M σ n (.bsl b m k) (.slice a m k)
 | elp (b i z off : Nat) (h : b < n) : RV M σ n (.elp b i z off) (.pointer (some ⟨σ b, i * z + off, none⟩))
 | mpt (b : Nat) (h : b < n) : RV M σ n (.mpt b) (.map (some (σ b)))
theorem RV.mono {M M' : Hp} (hM : M.le M') {σ σ' : Nat -> Nat} {n n' : Nat} (hn : n ≤ n') (hσ : ∀ b, b < n -> σ' b = σ b) {x : AV} {v : Value} (h : RV M σ n x v) : RV M' σ' n' x v := by
 induction h with
 | flat h => exact .flat (h.mono hM)
 | agg cs vs hl h1 _ ih => exact .agg cs vs hl h1 ih
 | tup cs vs hl _ ih => exact .tup cs vs hl ih
 | ptr b off h => rw [← hσ b h]; exact .ptr b off (by omega)
 | ept cs B off h => exact .ept cs B off (h.mono hM)
 | fn f xs ys us vs h1 h2 _ _ ih1 ih2 => exact .fn f xs ys us vs h1 h2 ih1 ih2
 | yl b h => rw [← hσ b h]; exact .yl b (by omega)
 | bsl b m k a h hk hl ha => exact .bsl b m k a (by omega) hk hl (by rw [hσ b h]; exact ha)
 | elp b i z off h => rw [← hσ b h]; exact .elp b i z off (by omega)
 | mpt b h => rw [← hσ b h]; exact .mpt b (by omega)
section inv
variable {M : Hp} {σ : Nat -> Nat} {n : Nat} {v : Value}
theorem RV.inv_bool {b : Bool} (h : RV M σ n (.bool b) v) : v = .bool b := by cases h with | flat h => cases h; rfl
theorem RV.inv_int {k : IntKind} {m : Int} (h : RV M σ n (.int k m) v) : v = .int k m := by cases h with | flat h => cases h; rfl
theorem RV.inv_str {s : ByteArray} (h : RV M σ n (.str s) v) : v = .string s ∧ s.size ≤ lim := by cases h with | flat h => cases h with | str _ h => exact ⟨rfl, h⟩
theorem RV.inv_sl {o : Cap} {l : List AV} (h : RV M σ n (.sl o l) v) :
  ∃ a k B off sz, v = .slice a l.length k ∧ (∀ z, o ≠ .own z) ∧ l.length ≤ k ∧ l.length ≤ lim ∧ (o = .full -> k = l.length) ∧ (l ≠ [] -> a = some ⟨B, off, none⟩) ∧ Elems M B off sz l := by
 cases h with | flat h => exact h.inv_sl
theorem RV.inv_agg {cs : List AV} (h : RV M σ n (.agg cs) v) : ∃ vs : List Value, v = .agg vs.toArray ∧ vs.length = cs.length ∧ (∀ v ∈ vs, v.oneCell' = true) ∧ ∀ j (h : j < cs.length) v, vs[j]? = some v -> RV M σ n cs[j] v := by
 cases h with
 | flat h => cases h with | agg _ vs hl h1 hv => exact ⟨vs, rfl, hl, h1, fun j h v hj => .flat (hv j h v hj)⟩
 | agg _ vs hl h1 hv => exact ⟨vs, rfl, hl, h1, hv⟩
theorem RV.inv_tup {cs : List AV} (h : RV M σ n (.tup cs) v) : ∃ vs : List Value, v = .tuple vs.toArray ∧ vs.length = cs.length ∧ ∀ j (h : j < cs.length) v, vs[j]? = some v -> RV M σ n cs[j] v := by
 cases h with
 | flat h => cases h
 | tup _ vs hl hv => exact ⟨vs, rfl, hl, hv⟩
theorem RV.inv_ptr {b off : Nat} (h : RV M σ n (.ptr b off) v) : v = .pointer (some ⟨σ b, off, none⟩) ∧ b < n := by
 cases h with
 | flat h => cases h
 | ptr _ _ h => exact ⟨rfl, h⟩
theorem RV.inv_nptr (h : RV M σ n .nptr v) : v = .pointer none := by cases h with | flat h => cases h; rfl
theorem RV.inv_lit {a : Option Addr} {m k : Nat} (h : RV M σ n (.lit a m k) v) : v = .slice a m k := by cases h with | flat h => cases h; rfl
theorem RV.inv_nfn (h : RV M σ n .nfn v) : v = .nilFunc := by cases h with | flat h => cases h; rfl
theorem RV.inv_ept {cs : List AV} (h : RV M σ n (.ept cs) v) : ∃ B off, v = .pointer (some ⟨B, off, none⟩) ∧ Cells M B off cs := by
 cases h with
 | flat h => cases h
 | ept _ B off h => exact ⟨B, off, rfl, h⟩
theorem RV.inv_fn {f : Fn} {xs ys : List AV} (h : RV M σ n (.fn f xs ys) v) : ∃ us vs : List Value, v = .func f us.toArray vs.toArray ∧ us.length = xs.length ∧ vs.length = ys.length ∧
  (∀ j (h : j < xs.length) v, us[j]? = some v -> RV M σ n xs[j] v) ∧ (∀ j (h : j < ys.length) v, vs[j]? = some v -> RV M σ n ys[j] v) := by
 cases h with
 | flat h => cases h
 | fn _ _ _ us vs h1 h2 h3 h4 => exact ⟨us, vs, rfl, h1, h2, h3, h4⟩
theorem RV.inv_yl {b : Nat} (h : RV M σ n (.yl b) v) : v = .func (.yield (σ b)) #[] #[] ∧ b < n := by
 cases h with
 | flat h => cases h
 | yl _ h => exact ⟨rfl, h⟩
theorem RV.inv_bsl {b m k : Nat} (h : RV M σ n (.bsl b m k) v) : ∃ a, v = .slice a m k ∧ b < n ∧ m ≤ k ∧ m ≤ glim ∧ (k ≠ 0 -> a = some ⟨σ b, 0, none⟩) := by
 cases h with
 | flat h => cases h
 | bsl _ _ _ a h hk hl ha => exact ⟨a, rfl, h, hk, hl, ha⟩
theorem RV.inv_elp {b i z off : Nat} (h : RV M σ n (.elp b i z off) v) : v = .pointer (some ⟨σ b, i * z + off, none⟩) ∧ b < n := by
 cases h with
 | flat h => cases h
 | elp _ _ _ _ h => exact ⟨rfl, h⟩
theorem RV.inv_mpt {b : Nat} (h : RV M σ n (.mpt b) v) : v = .map (some (σ b)) ∧ b < n := by
 cases h with
 | flat h => cases h
 | mpt _ h => exact ⟨rfl, h⟩
theorem RV.flat1 {x : AV} (h : RV M σ n x v) (hf : x.flat1 = true) : FV M x v := by
 cases h with
 | flat h => exact h
 | agg => simp [AV.flat1] at hf
 | tup => simp [AV.flat1] at hf
 | ptr => simp [AV.flat1] at hf
 | ept => simp [AV.flat1] at hf
 | fn => simp [AV.flat1] at hf
 | yl => simp [AV.flat1] at hf
 | bsl => simp [AV.flat1] at hf
 | elp => simp [AV.flat1] at hf
 | mpt => simp [AV.flat1] at hf
theorem RV.toFV {x : AV} (h : RV M σ n x v) (hf : x.flat = true) : FV M x v := by
 cases h with
 | flat h => exact h
 | agg cs vs hl h1 hv =>
  simp only [AV.flat, List.all_eq_true] at hf
  exact .agg cs vs hl h1 fun j hj v hjv => (hv j hj v hjv).flat1 (hf _ (List.getElem_mem hj))
 | tup => simp [AV.flat, AV.flat1] at hf
 | ptr => simp [AV.flat, AV.flat1] at hf
 | ept => simp [AV.flat, AV.flat1] at hf
 | fn => simp [AV.flat, AV.flat1] at hf
 | yl => simp [AV.flat, AV.flat1] at hf
 | bsl => simp [AV.flat, AV.flat1] at hf
 | elp => simp [AV.flat, AV.flat1] at hf
 | mpt => simp [AV.flat, AV.flat1] at hf
theorem FV.norm1 {x : AV} (h : FV M x v) : FV M x.norm1 v := by
 cases h with
 | sl o l a k B off sz ho hk hl hf ha hz hm hv => exact .sl .no l a k B off sz (fun z e => by cases e) hk hl (fun e => by cases e) ha hz hm hv
 | top v => exact .top v
 | bool b => exact .bool b
 | int k n => exact .int k n
 | str s h => exact .str s h
 | agg cs vs hl h1 hv => exact .agg cs vs hl h1 hv
 | nptr => exact .nptr
 | nfn => exact .nfn
 | nmp => exact .nmp
 | nifc => exact .nifc
 | lit a n k => exact .lit a n k
theorem RV.norm1 {x : AV} (h : RV M σ n x v) : RV M σ n x.norm1 v := by
 cases h with
 | flat h => exact .flat h.norm1
 | agg cs vs hl h1 hv => exact .agg cs vs hl h1 hv
 | tup cs vs hl hv => exact .tup cs vs hl hv
 | ptr b off h => exact .ptr b off h
 | ept cs B off h => exact .ept cs B off h
 | fn f xs ys us vs h1 h2 hx hy => exact .fn f xs ys us vs h1 h2 hx hy
 | yl b h => exact .yl b h
 | bsl b m k a h hk hl ha => exact .bsl b m k a h hk hl ha
 | elp b i z off h => exact .elp b i z off h
 | mpt b h => exact .mpt b h
theorem RV.norm {x : AV} (h : RV M σ n x v) : RV M σ n x.norm v := by
 cases x with
 | agg cs =>
  obtain ⟨vs, rfl, hl, h1, hv⟩ := h.inv_agg; refine .agg _ vs (by simpa using hl) h1 fun j hj v hjv => ?_
  simp only [List.length_map] at hj; rw [List.getElem_map]
  exact (hv j hj v hjv).norm1
 | _ => exact h.norm1
theorem deown_norm1 (x : AV) : x.deown.norm1 = x.norm1 := by
 cases x with
 | sl o l => cases o <;> rfl
 | _ => rfl
theorem deown_norm (x : AV) : x.deown.norm = x.norm := by
 cases x with
 | sl o l => cases o <;> rfl
 | _ => rfl
theorem RV.deown_of {x : AV} (h : RV M σ n x v) : x.deown = x := by
 cases h with
 | flat h =>
  cases h with
  | sl o l a k B off sz ho => cases o with
   | own z => exact absurd rfl (ho z)
   | _ => rfl
  | _ => rfl
 | _ => rfl
theorem RV.lt0 {x : AV} {m : Nat} (h : RV M σ n x v) (hf : x.lt0 m = true) : RV M σ m x v := by
 cases h with
 | flat h => exact .flat h
 | ptr b off _ => exact .ptr b off (by simpa [AV.lt0] using hf)
 | agg => simp [AV.lt0, AV.flat1] at hf
 | tup => simp [AV.lt0, AV.flat1] at hf
 | ept cs B off h => exact .ept cs B off h
 | fn => simp [AV.lt0, AV.flat1] at hf
 | yl b _ => exact .yl b (by simpa [AV.lt0] using hf)
 | bsl b m k a h hk hl ha => exact .bsl b m k a (by simpa [AV.lt0] using hf) hk hl ha
 | elp b i z off _ => exact .elp b i z off (by simpa [AV.lt0] using hf)
 | mpt b _ => exact .mpt b (by simpa [AV.lt0] using hf)
theorem RV.lt1 {x : AV} {m : Nat} (h : RV M σ n x v) (hf : x.lt1 m = true) : RV M σ m x v := by
 cases h with
 | fn f xs ys us vs h1 h2 hx hy =>
  simp only [AV.lt1, Bool.and_eq_true, List.all_eq_true] at hf
  exact .fn f xs ys us vs h1 h2 (fun j hj v e => (hx j hj v e).lt0 (hf.1 _ (List.getElem_mem hj))) (fun j hj v e => (hy j hj v e).lt0 (hf.2 _ (List.getElem_mem hj)))
 | flat h => exact .flat h
 | ptr b off k => exact (RV.ptr (M := M) (σ := σ) b off k).lt0 (by simpa [AV.lt1] using hf)
 | agg => simp [AV.lt1, AV.lt0, AV.flat1] at hf
 | tup => simp [AV.lt1, AV.lt0, AV.flat1] at hf
 | ept cs B off h => exact .ept cs B off h
 | yl b k => exact (RV.yl (M := M) (σ := σ) b k).lt0 (by simpa [AV.lt1] using hf)
 | bsl b q k a h hk hl ha => exact (RV.bsl (M := M) (σ := σ) b q k a h hk hl ha).lt0 (by simpa [AV.lt1] using hf)
 | elp b i z off h => exact (RV.elp (M := M) (σ := σ) b i z off h).lt0 (by simpa [AV.lt1] using hf)
 | mpt b h => exact (RV.mpt (M := M) (σ := σ) b h).lt0 (by simpa [AV.lt1] using hf)
theorem RV.lt2 {x : AV} {m : Nat} (h : RV M σ n x v) (hf : x.lt2 m = true) : RV M σ m x v := by
 cases x with
 | agg cs =>
  obtain ⟨vs, rfl, hl, h1, hv⟩ := h.inv_agg; simp only [AV.lt2, List.all_eq_true] at hf
  exact .agg cs vs hl h1 fun j hj v e => (hv j hj v e).lt1 (hf _ (List.getElem_mem hj))
 | _ => exact h.lt1 hf
theorem RV.lt {x : AV} {m : Nat} (h : RV M σ n x v) (hf : x.lt m = true) : RV M σ m x v := by
 cases h with
 | flat h => exact .flat h
 | agg cs vs hl h1 hv =>
  simp only [AV.lt, List.all_eq_true] at hf
  exact .agg cs vs hl h1 fun j hj v e => (hv j hj v e).lt1 (hf _ (List.getElem_mem hj))
 | tup cs vs hl hv =>
  simp only [AV.lt, List.all_eq_true] at hf
  exact .tup cs vs hl fun j hj v e => (hv j hj v e).lt2 (hf _ (List.getElem_mem hj))
 | ptr b off k => exact (RV.ptr (M := M) (σ := σ) b off k).lt1 (by simpa [AV.lt] using hf)
 | ept cs B off h => exact .ept cs B off h
 | fn f xs ys us vs h1 h2 hx hy => exact (RV.fn f xs ys us vs h1 h2 hx hy).lt1 (by simpa [AV.lt] using hf)
 | yl b k => exact (RV.yl (M := M) (σ := σ) b k).lt1 (by simpa [AV.lt] using hf)
 | bsl b q k a h hk hl ha => exact (RV.bsl (M := M) (σ := σ) b q k a h hk hl ha).lt1 (by simpa [AV.lt] using hf)
 | elp b i z off h => exact (RV.elp (M := M) (σ := σ) b i z off h).lt1 (by simpa [AV.lt] using hf)
 | mpt b h => exact (RV.mpt (M := M) (σ := σ) b h).lt1 (by simpa [AV.lt] using hf)
end inv
theorem lt_deown (m : Nat) (x : AV) : x.deown.lt m = x.lt m := by
 cases x with
 | sl o l => cases o <;> rfl
 | _ => rfl
end Go.AM
