/-
  THE ABSTRACT MACHINE, 7b: further operations that only read slots: equality of structs, of bools. No function of the program is named here. By an AI agent.
-/
import Derived.Test.YtamhnlajkncccaaDoorAmD
import Derived.Laws.StructEq
import Derived.Laws.BytesString
set_option linter.unusedSimpArgs false
set_option linter.unusedVariables false
namespace Go.AM
open Go.CK Go.RowKit

inductive FK where
  | b
  | i
  | s
deriving DecidableEq
def fkOf (P : Program) (t : TypeId) : Option FK := match P.underlying t with
  | some .bool => some .b
  | some (.int _) => some .i
  | some .string => some .s
  | _ => none
/-- the kinds of a struct's fields, if each is one scalar -/
def flatF (P : Program) : Nat → List Field → Option (List FK)
  | _, [] => some []
  | k, f :: fs => match f.name != "_", Nat.beq f.offset k, fkOf P f.type, flatF P (k + 1) fs with
    | true, true, some x, some xs => some (x :: xs)
    | _, _, _, _ => none
def eqCs : List FK → List AV → List AV → Option Bool
  | [], [], [] => some true
  | .i :: ks, .int k x :: r, .int k' y :: r' => match decide (k = k'), eqCs ks r r' with
    | true, some b => some (decide (x = y) && b)
    | _, _ => none
  | .b :: ks, .bool x :: r, .bool y :: r' => match eqCs ks r r' with
    | some b => some (decide (x = y) && b)
    | none => none
  | .s :: ks, .str x :: r, .str y :: r' => match eqCs ks r r' with
    | some b => some (decide (x = y) && b)
    | none => none
  | _, _, _ => none
inductive More where
  | eqA (neg : Bool) (ks : List FK)
  | eqB (neg : Bool)
  | cap
  | see
  /-- bytes as a text -/
  | bts
  /-- what lies behind a pointer into a list -/
  | lde (agg : Bool) (n : Nat)
deriving Inhabited
inductive MRes where
  | ok (x : AV)
  | need (p : Prop) (x : AV)
def negIf (neg b : Bool) : Bool := match neg with
  | true => !b
  | false => b
def intsOf : List AV → Option (List Int)
  | [] => some []
  | .int .u8 n :: r => match intsOf r with
    | some l => some (n :: l)
    | none => none
  | _ => none
def strOf (ns : List Int) : ByteArray := ns.foldl (fun r n => r.push (UInt8.ofNat n.toNat)) ByteArray.empty
def ldeV (agg : Bool) (n : Nat) (cs : List AV) : Option MRes :=
  match agg with
  | true => match Nat.ble n cs.length with
    | true => some (.ok (.agg (cs.take n)))
    | false => none
  | false => match cs with
    | c :: _ => some (.ok c)
    | [] => none
def More.val : More → List AV → Option MRes
  | .eqA neg ks, [.agg xs, .agg ys] => match eqCs ks xs ys with
    | some b => match neg with
      | true => some (.ok (.bool (!b)))
      | false => some (.ok (.bool b))
    | none => none
  | .eqB neg, [.bool a, .bool b] => match neg with
    | true => some (.ok (.bool (!decide (a = b))))
    | false => some (.ok (.bool (decide (a = b))))
  | .cap, [.bsl _ _ k] => some (.ok (.int .i64 k))
  | .cap, [.sl .full l] => some (.ok (.int .i64 l.length))
  | .see, [x] => some (.ok x)
  | .bts, [.sl _ l] => match intsOf l with
    | some ns => some (.ok (.str (strOf ns)))
    | none => none
  | .lde agg n, [.ept cs] => ldeV agg n cs
  | _, _ => none
def moreK (g : More) (vals : List AV) (K : AV → Prop) : Prop :=
  match g.val vals with
  | some (.ok r) => K r
  | some (.need p r) => p ∧ K r
  | none => False
theorem moreK_mono {g : More} {vals : List AV} {K K' : AV → Prop} (hk : ∀ x, K x → K' x) (h : moreK g vals K) : moreK g vals K' := by
  unfold moreK at h ⊢
  split at h <;> first | exact hk _ h | exact ⟨h.1, hk _ h.2⟩ | exact h
theorem moreK_ex {g : More} {vals : List AV} {K : AV → Prop} (h : moreK g vals K) : ∃ r, moreK g vals (fun x => x = r) ∧ K r := by
  unfold moreK at h ⊢
  split at h <;> first | exact ⟨_, rfl, h⟩ | exact ⟨_, ⟨h.1, rfl⟩, h.2⟩ | exact h.elim

theorem eqFields_run {P : Program} {M : Hp} {σ : Nat → Nat} {n : Nat} {xs ys : Array Value} {d : Nat} (w : World) : ∀ (fs : List Field) (k : Nat) (ks : List FK) (as bs : List AV) (b : Bool), flatF P k fs = some ks → eqCs ks as bs = some b →
    (∀ j (h : j < as.length) v, xs[k + j]? = some v → RV M σ n as[j] v) → (∀ j (h : j < bs.length) v, ys[k + j]? = some v → RV M σ n bs[j] v) → xs.size = k + as.length → ys.size = k + bs.length →
    (Op.eqFields (d + 1) xs ys fs).run P w = .ok b w
  | [], k, ks, as, bs, b, hf, he, hx, hy, sx, sy => by
    simp only [flatF, Option.some.injEq] at hf
    subst hf
    cases as <;> cases bs <;> simp [eqCs] at he
    subst he
    simp [Op.eqFields]
  | f :: fs, k, ks, as, bs, b, hf, he, hx, hy, sx, sy => by
    simp only [flatF] at hf
    split at hf
    · rename_i x xs' h1 h2 h3 h4
      cases hf
      have h2 := Nat.eq_of_beq_eq_true h2
      have hn : f.name ≠ "_" := by simpa using h1
      have go : ∀ (va vb : Value) (a0 b0 : AV) (ar br : List AV) (e b' : Bool), as = a0 :: ar → bs = b0 :: br → P.plainKey f.type = true → (∀ v, RV M σ n a0 v → v = va) → (∀ v, RV M σ n b0 v → v = vb) → (Op.equalIn (d + 1) f.type va vb).run P w = .ok e w → eqCs xs' ar br = some b' → b = (e && b') → (Op.eqFields (d + 1) xs ys (f :: fs)).run P w = .ok b w := fun va vb a0 b0 ar br e b' ea eb hp ha hb he' hr hbb => by
        subst ea eb
        simp only [List.length_cons] at sx sy
        obtain ⟨u, hu⟩ : ∃ u, xs[k]? = some u := ⟨_, Array.getElem?_eq_getElem (by omega)⟩
        obtain ⟨v, hv⟩ : ∃ v, ys[k]? = some v := ⟨_, Array.getElem?_eq_getElem (by omega)⟩
        have e1 := ha u (hx 0 (by simp) u (by simpa using hu))
        have e2 := hb v (hy 0 (by simp) v (by simpa using hv))
        subst e1 e2
        have p1 := run_part_plain (P := P) w hp (xs := xs) (off := f.offset) (v := u) (by rw [h2]; exact hu)
        have p2 := run_part_plain (P := P) w hp (xs := ys) (off := f.offset) (v := v) (by rw [h2]; exact hv)
        have ih := eqFields_run (d := d) w fs (k + 1) xs' ar br b' h4 hr (fun j hj z hz => by
          have := hx (j + 1) (by simpa using hj) z (by rw [show k + (j + 1) = k + 1 + j by omega]; exact hz)
          simpa using this) (fun j hj z hz => by
          have := hy (j + 1) (by simpa using hj) z (by rw [show k + (j + 1) = k + 1 + j by omega]; exact hz)
          simpa using this) (by omega) (by omega)
        simp only [Op.eqFields, if_pos hn, Sem.run_bind, p1, p2, he', Result.andThen_ok]
        subst hbb
        cases e
        · simp
        · simpa using ih
      have hk3 := h3
      unfold fkOf at h3
      split at h3 <;> cases h3
      · rename_i hu
        have hp : P.plainKey f.type = true := by simp [Program.plainKey, hu]
        cases as with
        | nil => cases bs <;> simp [eqCs] at he
        | cons a0 ar => cases bs with
          | nil => cases a0 <;> simp [eqCs] at he
          | cons b0 br =>
            cases a0 <;> cases b0 <;> simp [eqCs] at he
            rename_i p q
            split at he
            · rename_i b' hb'
              cases he
              exact go (.bool p) (.bool q) _ _ _ _ (p == q) b' rfl rfl hp (fun v hv => hv.inv_bool) (fun v hv => hv.inv_bool) (run_equalIn_bool' w d f.type p q hu) hb' (by cases p <;> cases q <;> rfl)
            · cases he
      · rename_i hu
        have hp : P.plainKey f.type = true := by simp [Program.plainKey, hu]
        cases as with
        | nil => cases bs <;> simp [eqCs] at he
        | cons a0 ar => cases bs with
          | nil => cases a0 <;> simp [eqCs] at he
          | cons b0 br =>
            cases a0 <;> cases b0 <;> simp [eqCs] at he
            rename_i k1 p k2 q
            split at he
            · rename_i b' hkk hb'
              cases he
              have := of_decide_eq_true hkk
              subst this
              exact go (.int k1 p) (.int k1 q) _ _ _ _ (p == q) b' rfl rfl hp (fun v hv => hv.inv_int) (fun v hv => hv.inv_int) (run_equalIn_int w d f.type k1 _ p q hu) hb' (by congr 1)
            · cases he
      · rename_i hu
        have hp : P.plainKey f.type = true := by simp [Program.plainKey, hu]
        cases as with
        | nil => cases bs <;> simp [eqCs] at he
        | cons a0 ar => cases bs with
          | nil => cases a0 <;> simp [eqCs] at he
          | cons b0 br =>
            cases a0 <;> cases b0 <;> simp [eqCs] at he
            rename_i p q
            split at he
            · rename_i b' hb'
              cases he
              exact go (.string p) (.string q) _ _ _ _ (p.toList == q.toList) b' rfl rfl hp (fun v hv => hv.inv_str.1) (fun v hv => hv.inv_str.1) (run_equalIn_string w d f.type p q hu) hb' (by rw [str_eq])
            · cases he
    · cases hf

/-- the kinds of a struct type's fields, if the model's == of the type is theirs -/
def eqaOf (P : Program) (t : TypeId) : Option (List FK) := match P.underlying t with
  | some (.struct fs) => match P.stoodInHeld t, P.eqGuardType P.depth t with
    | false, false => flatF P 0 fs.toList
    | _, _ => none
  | _ => none
section
variable {P : Program} {s : St} {o : Oper} {K : St → Prop}
theorem eqA_sound {t u : TypeId} {x y : Operand} {neg : Bool} (ho : o.op = .binOp (if neg then .neq else .eql) t x y u) {rx ry : Opd} (hx : opd x = some rx) (hy : opd y = some ry) {ks : List FK} (hk : eqaOf P t = some ks)
    (h : moreK (.eqA neg ks) [s.ev rx, s.ev ry] fun r => K (s.put o.dst r)) : OpS P o s K := by
  have hd : ∀ c, o.op ≠ .defer c := fun c e => by rw [ho] at e; cases e
  obtain ⟨r, h1, h2⟩ := moreK_ex h
  have hval : ∃ xs ys b, s.ev rx = .agg xs ∧ s.ev ry = .agg ys ∧ eqCs ks xs ys = some b ∧ r = .bool (negIf neg b) := by
    unfold moreK at h1
    cases hxv : s.ev rx <;> cases hyv : s.ev ry <;> simp only [hxv, hyv, More.val] at h1
    rename_i xs ys
    cases he : eqCs ks xs ys with
    | none => rw [he] at h1; exact h1.elim
    | some b =>
      rw [he] at h1
      refine ⟨xs, ys, b, rfl, rfl, he, ?_⟩
      cases neg <;> exact h1.symm
  obtain ⟨xs, ys, b, ex, ey, he, rfl⟩ := hval
  refine OpS.pure _ hd h2 fun E G a w hs => ⟨.bool (negIf neg b), ?_, .flat (.bool _)⟩
  have vx := hs.ev hx
  have vy := hs.ev hy
  rw [ex] at vx
  rw [ey] at vy
  obtain ⟨us, hu, lu, _, ru⟩ := vx.inv_agg
  obtain ⟨vs, hv, lv, _, rv⟩ := vy.inv_agg
  unfold eqaOf at hk
  split at hk
  · rename_i fs ht
    split at hk
    · rename_i hst hg
      have hfo : P.fieldsOf t = fs := by simp [Program.fieldsOf, ht]
      have hrun : (Op.equal t (.agg us.toArray) (.agg vs.toArray)).run P w = .ok b w := by
        have := run_equalIn_struct (P := P) w 9999 t us.toArray vs.toArray (by rw [hfo]; exact ht) hst
        unfold Op.equal
        rw [show Op.maxDepth = 9999 + 1 from rfl, this, hfo]
        exact eqFields_run (d := 9998) w fs.toList 0 ks xs ys b hk he (fun j hj v hjv => ru j hj v (by simpa using hjv)) (fun j hj v hjv => rv j hj v (by simpa using hjv)) (by simp [lu]) (by simp [lv])
      have hgd : ∀ op, (eqGuard op t x y (.agg us.toArray) (.agg vs.toArray)).run P w = .ok () w := fun op => by
        unfold eqGuard
        cases op <;> simp [hg]
      unfold execOp
      cases neg
      · simp only [ho, Bool.false_eq_true, if_false, Sem.run_bind, hu, hv, hgd, Result.andThen_ok, binOp, hrun, negIf, Sem.run_pure]
      · simp only [ho, if_true, Sem.run_bind, hu, hv, hgd, Result.andThen_ok, binOp, hrun, negIf, Sem.run_pure]
    · cases hk
  · cases hk
theorem eqB_sound {t u : TypeId} {x y : Operand} {neg : Bool} (ho : o.op = .binOp (if neg then .neq else .eql) t x y u) {rx ry : Opd} (hx : opd x = some rx) (hy : opd y = some ry) (ht : P.underlying t = some .bool)
    (h : moreK (.eqB neg) [s.ev rx, s.ev ry] fun r => K (s.put o.dst r)) : OpS P o s K := by
  have hd : ∀ c, o.op ≠ .defer c := fun c e => by rw [ho] at e; cases e
  obtain ⟨r, h1, h2⟩ := moreK_ex h
  have hval : ∃ p q, s.ev rx = .bool p ∧ s.ev ry = .bool q ∧ r = .bool (negIf neg (decide (p = q))) := by
    unfold moreK at h1
    cases hxv : s.ev rx <;> cases hyv : s.ev ry <;> simp only [hxv, hyv, More.val] at h1
    rename_i p q
    refine ⟨p, q, rfl, rfl, ?_⟩
    cases neg <;> exact h1.symm
  obtain ⟨p, q, ex, ey, rfl⟩ := hval
  refine OpS.pure _ hd h2 fun E G a w hs => ⟨.bool (negIf neg (decide (p = q))), ?_, .flat (.bool _)⟩
  have vx := hs.ev hx
  have vy := hs.ev hy
  rw [ex] at vx
  rw [ey] at vy
  have e1 := vx.inv_bool
  have e2 := vy.inv_bool
  have hrun : (Op.equal t (.bool p) (.bool q)).run P w = .ok (decide (p = q)) w := by
    rw [run_equal_bool w t p q ht]
    congr 1
  rw [exec_binOp P _ o ho w (by rw [e1]; simp) (by rw [e1]; simp), e1, e2]
  cases neg
  · simp only [Bool.false_eq_true, if_false, binOp, Sem.run_bind, hrun, Result.andThen_ok, Sem.run_pure, negIf]
  · simp only [if_true, binOp, Sem.run_bind, hrun, Result.andThen_ok, Sem.run_pure, negIf]
end
end Go.AM
