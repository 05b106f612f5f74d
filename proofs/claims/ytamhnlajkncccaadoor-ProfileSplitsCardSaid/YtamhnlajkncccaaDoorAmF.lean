/-
  THE ABSTRACT MACHINE, 15: the small code, run so that states come out written out. No function of the program is named here. By an AI agent.
-/
import Derived.Test.YtamhnlajkncccaaDoorAmW
set_option linter.unusedSimpArgs false
set_option linter.unusedVariables false
namespace Go.AM
open Go.CK Go.RowKit

def lits : List Nat := [0, 1, 2, 3, 4, 5, 6, 7, 8, 9, 10, 11, 12, 13, 14, 15, 16, 17, 18, 19, 20, 21, 22, 23, 24, 25, 26, 27, 28, 29, 30, 31, 32, 33, 34, 35, 36, 37, 38, 39, 40]
/-- a number that is no more than 40, written out -/
def natF (n : Nat) (K : Nat → Prop) : Prop :=
  match lits[n]? with
  | some m => K m
  | none => K n
theorem natF_eq (n : Nat) (K : Nat → Prop) : natF n K = K n := by
  unfold natF
  split
  · rename_i m h
    have : m = n := by
      have hlt : n < lits.length := by
        rcases Nat.lt_or_ge n lits.length with h1 | h1
        · exact h1
        · rw [List.getElem?_eq_none h1] at h; cases h
      have hall : ∀ k, (hk : k < lits.length) → lits[k] = k := by decide
      rw [List.getElem?_eq_getElem hlt] at h
      cases h
      exact hall n hlt
    rw [this]
  · rfl

/-- the head of a value that is no list of values -/
def f1 (x : AV) (K : AV → Prop) : Prop :=
  match x with
  | .top => K .top
  | .bool b => K (.bool b)
  | .int k n => K (.int k n)
  | .str s => K (.str s)
  | .sl o l => match o with
    | .no => K (.sl .no l)
    | .full => K (.sl .full l)
    | .own z => K (.sl (.own z) l)
  | .agg cs => K (.agg cs)
  | .tup vs => K (.tup vs)
  | .ptr b off => natF b fun b => natF off fun off => K (.ptr b off)
  | .nptr => K .nptr
  | .ept cs => K (.ept cs)
  | .fn f xs ys => K (.fn f xs ys)
  | .yl b => K (.yl b)
  | .bsl b m k => natF b fun b => K (.bsl b m k)
  | .elp b i z off => natF b fun b => K (.elp b i z off)
  | .mpt b => natF b fun b => K (.mpt b)
  | .nfn => K .nfn
  | .nmp => K .nmp
  | .nifc => K .nifc
theorem f1_eq (x : AV) (K : AV → Prop) : f1 x K = K x := by
  cases x <;> first | (simp only [f1, natF_eq]; done) | skip
  rename_i o l
  cases o <;> rfl
def fs (l : List AV) (K : List AV → Prop) : Prop :=
  match l with
  | [] => K []
  | x :: xs => f1 x fun x => fs xs fun xs => K (x :: xs)
theorem fs_eq : ∀ (l : List AV) (K : List AV → Prop), fs l K = K l
  | [], _ => rfl
  | x :: xs, K => by rw [fs, f1_eq, fs_eq xs]
/-- a value, written out -/
def fv (x : AV) (K : AV → Prop) : Prop :=
  match x with
  | .agg cs => fs cs fun cs => K (.agg cs)
  | .tup cs => fs cs fun cs => K (.tup cs)
  | .ept cs => fs cs fun cs => K (.ept cs)
  | .fn f xs ys => fs xs fun xs => fs ys fun ys => K (.fn f xs ys)
  | x => f1 x K
theorem fv_eq (x : AV) (K : AV → Prop) : fv x K = K x := by
  cases x <;> simp only [fv, fs_eq, f1_eq]
def fvs (l : List AV) (K : List AV → Prop) : Prop :=
  match l with
  | [] => K []
  | x :: xs => fv x fun x => fvs xs fun xs => K (x :: xs)
theorem fvs_eq : ∀ (l : List AV) (K : List AV → Prop), fvs l K = K l
  | [], _ => rfl
  | x :: xs, K => by rw [fvs, fv_eq, fvs_eq xs]
/-- the same, but for a pointer's numbers -/
def fvq (x : AV) (K : AV → Prop) : Prop :=
  match x with
  | .ptr b off => K (.ptr b off)
  | .bsl b m k => K (.bsl b m k)
  | .elp b i z off => K (.elp b i z off)
  | .mpt b => K (.mpt b)
  | .fn f xs ys => K (.fn f xs ys)
  | x => fv x K
theorem fvq_eq (x : AV) (K : AV → Prop) : fvq x K = K x := by
  cases x <;> simp only [fvq, fv_eq]
def fvqs (l : List AV) (K : List AV → Prop) : Prop :=
  match l with
  | [] => K []
  | x :: xs => fvq x fun x => fvqs xs fun xs => K (x :: xs)
theorem fvqs_eq : ∀ (l : List AV) (K : List AV → Prop), fvqs l K = K l
  | [], _ => rfl
  | x :: xs, K => by rw [fvqs, fvq_eq, fvqs_eq xs]
/-- a value, written out; but a pointer's numbers when fb is false -/
def fvn (fb : Bool) (x : AV) (K : AV → Prop) : Prop :=
  match fb with
  | true => fv x K
  | false => fvq x K
theorem fvn_eq (fb : Bool) (x : AV) (K : AV → Prop) : fvn fb x K = K x := by
  cases fb
  · simp only [fvn, fvq_eq]
  · simp only [fvn, fv_eq]
def fEnv (fb : Bool) (e : List (Nat × AV)) (K : List (Nat × AV) → Prop) : Prop :=
  match e with
  | [] => K []
  | (t, x) :: r => fvn fb x fun x => fEnv fb r fun r => K ((t, x) :: r)
theorem fEnv_eq (fb : Bool) : ∀ (e : List (Nat × AV)) (K : List (Nat × AV) → Prop), fEnv fb e K = K e
  | [], _ => rfl
  | (t, x) :: r, K => by rw [fEnv, fvn_eq, fEnv_eq fb r]
def fBs (e : List Box) (K : List Box → Prop) : Prop :=
  match e with
  | [] => K []
  | .cells cs :: r => fs cs fun cs => fBs r fun r => K (.cells cs :: r)
  | .dead :: r => fBs r fun r => K (.dead :: r)
  | .loop x :: r => fBs r fun r => K (.loop x :: r)
  | .row x :: r => fBs r fun r => K (.row x :: r)
  | .mp x :: r => fBs r fun r => K (.mp x :: r)
theorem fBs_eq : ∀ (e : List Box) (K : List Box → Prop), fBs e K = K e
  | [], _ => rfl
  | .cells cs :: r, K => by rw [fBs, fs_eq, fBs_eq r]
  | .dead :: r, K => by rw [fBs, fBs_eq r]
  | .loop x :: r, K => by rw [fBs, fBs_eq r]
  | .row x :: r, K => by rw [fBs, fBs_eq r]
  | .mp x :: r, K => by rw [fBs, fBs_eq r]
/-- fb: the boxes too -/
def St.fo (fb : Bool) (s : St) (K : St → Prop) : Prop := match s with
  | ⟨e, bs, lo⟩ => fEnv fb e fun e => match fb with
    | true => fBs bs fun bs => natF lo fun lo => K ⟨e, bs, lo⟩
    | false => K ⟨e, bs, lo⟩
theorem St.fo_eq (fb : Bool) (s : St) (K : St → Prop) : s.fo fb K = K s := by
  cases fb <;> simp only [St.fo, fEnv_eq, fBs_eq, natF_eq]

/-- a call, as the run comes to it -/
structure CallN (P : Program) (f : FuncId) (vals raw : List AV) (bs : List Box) (K : AV → List Box → Prop) : Prop where
  sem : ∃ Q, (Sem P f vals bs Q ∨ Sem P f raw bs Q) ∧ ∀ r bs', Q r bs' → K r bs'
theorem CallN.of {P : Program} {f : FuncId} {vals raw : List AV} {bs : List Box} {K : AV → List Box → Prop} {Q : AV → List Box → Prop} (h : Sem P f vals bs Q) (hK : ∀ r bs', Q r bs' → K r bs') : CallN P f vals raw bs K := ⟨Q, .inl h, hK⟩
/-- the arguments with what is known of their capacities -/
theorem CallN.raw {P : Program} {f : FuncId} {vals raw : List AV} {bs : List Box} {K : AV → List Box → Prop} {Q : AV → List Box → Prop} (h : Sem P f raw bs Q) (hK : ∀ r bs', Q r bs' → K r bs') : CallN P f vals raw bs K := ⟨Q, .inr h, hK⟩
theorem CallN.fn {P : Program} {f : FuncId} {vals raw : List AV} {bs : List Box} {K : AV → List Box → Prop} {r : AV} (h : Fun P f vals r) (hK : K r bs) : CallN P f vals raw bs K := ⟨_, .inl (h bs), fun r' bs' ⟨e1, e2⟩ => by subst e1 e2; exact hK⟩
/-- the same in a region that draws its order: the contract must be exact -/
structure CallP (P : Program) (f : FuncId) (vals : List AV) (K : AV → Prop) : Prop where
  sem : ∃ r, Fun P f vals r ∧ K r
theorem CallP.fn {P : Program} {f : FuncId} {vals : List AV} {K : AV → Prop} {r : AV} (h : Fun P f vals r) (hK : K r) : CallP P f vals K := ⟨r, h, hK⟩

/-- a call of yield, as the run comes to it -/
structure YieldN (P : Program) (b : Nat) (vals : List AV) (bs : List Box) (K : AV → List Box → Prop) : Prop where
  sem : ∃ Q, SemY P b vals bs Q ∧ ∀ r bs', Q r bs' → K r bs'
theorem YieldN.of {P : Program} {b : Nat} {vals : List AV} {bs : List Box} {K : AV → List Box → Prop} {Q : AV → List Box → Prop} (h : SemY P b vals bs Q) (hK : ∀ r bs', Q r bs' → K r bs') : YieldN P b vals bs K := ⟨Q, h, hK⟩

/-- a state turned, its parts written out -/
def St.pt (s : St) (d : Option Nat) (x : AV) : St := match s with
  | ⟨e, bs, lo⟩ => match d with
    | some k => ⟨envPut e k x, bs, lo⟩
    | none => ⟨e, bs, lo⟩
theorem St.pt_eq (s : St) (d : Option Nat) (x : AV) : s.pt d x = s.put d x := by cases s; cases d <;> rfl
def St.kp (s : St) (ks : List Nat) : St := match s with
  | ⟨e, bs, lo⟩ => ⟨envKeep (fun k => mem k ks) e, bs, lo⟩
theorem St.kp_eq (s : St) (ks : List Nat) : s.kp ks = s.keep ks := by cases s; rfl
def St.wb (s : St) (bs' : List Box) : St := match s with
  | ⟨e, _, lo⟩ => ⟨e, bs', lo⟩
theorem St.wb_eq (s : St) (bs' : List Box) : s.wb bs' = ⟨s.env, bs', s.lo⟩ := by cases s; rfl
def fsq (l : List AV) (K : List AV → Prop) : Prop := fvqs l K
theorem fsq_eq (l : List AV) (K : List AV → Prop) : fsq l K = K l := fvqs_eq l K
def callF (P : Program) (dr : Bool) (s : St) (d : Option Nat) (f : AV) (args : List AV) (K : St → Prop) : Prop :=
  match f with
  | .fn (.func f) xs ys => fvqs ((xs ++ args ++ ys).map AV.norm) fun vals => match dr with
    | true => CallP P f vals fun r => K (s.pt d r)
    | false => match s with
      | ⟨e, bs, lo⟩ => CallN P f vals (xs ++ args ++ ys) bs fun r bs' => K (St.pt ⟨e, bs', lo⟩ d r)
  | .yl b => match dr with
    | true => False
    | false => fvqs (args.map AV.norm) fun vals => match s with
      | ⟨e, bs, lo⟩ => YieldN P b vals bs fun r bs' => K (St.pt ⟨e, bs', lo⟩ d r)
  | _ => False
theorem callF_eq {P : Program} {dr : Bool} {s : St} {d : Option Nat} {f : AV} {args : List AV} {K : St → Prop} : callF P dr s d f args K = (match dr with
    | true => pcallK P f args fun r => K (s.put d r)
    | false => callK P s d f args K) := by
  cases dr with
  | true =>
    cases f <;> try rfl
    rename_i f xs ys
    cases f <;> try rfl
    simp only [callF, pcallK, fvqs_eq, St.pt_eq]
    exact propext ⟨fun h => h.sem, fun h => ⟨h⟩⟩
  | false =>
    cases f <;> try rfl
    · rename_i f xs ys
      cases f <;> try rfl
      simp only [callF, callK, fvqs_eq, St.pt_eq, St.wb_eq]
      exact propext ⟨fun h => h.sem, fun h => ⟨h⟩⟩
    · simp only [callF, callK, fvqs_eq, St.pt_eq, St.wb_eq]
      exact propext ⟨fun h => h.sem, fun h => ⟨h⟩⟩

def RX.go (P : Program) (dr : Bool) (rx : RX) (s : St) (d : Option Nat) (K : St → Prop) : Prop :=
  match rx with
  | .call f args => callF P dr s d (s.ev f) (evs s.ev args) K
  | .callv f args => callable P (s.ev f) ∧ callF P dr s d (s.ev f) (evs s.ev args) K
  | rx => rx.run P dr s d K
theorem RX.go_eq {P : Program} {dr : Bool} {rx : RX} {s : St} {d : Option Nat} {K : St → Prop} : rx.go P dr s d K = rx.run P dr s d K := by
  cases rx <;> try rfl
  · cases dr <;> simp only [RX.go, RX.run, callF_eq]
  · cases dr <;> simp only [RX.go, RX.run, callF_eq]
def ROp.go (P : Program) (dr : Bool) (r : ROp) (s : St) (K : St → Prop) : Prop :=
  match r.guard with
  | none => r.rx.go P dr s r.dst K
  | some (g, want) => match gv want (s.ev (.t g)) with
    | some b => (b = want → r.rx.go P dr s r.dst K) ∧ (b ≠ want → K (s.put r.dst (.tup [])))
    | none => False
theorem ROp.go_eq {P : Program} {dr : Bool} {r : ROp} {s : St} {K : St → Prop} : r.go P dr s K = r.run P dr s K := by
  unfold ROp.go ROp.run
  cases r.guard with
  | none => exact RX.go_eq
  | some q =>
    obtain ⟨g, want⟩ := q
    simp only
    cases gv want (s.ev (.t g)) <;> first | rfl | (simp only [RX.go_eq])

/-- the operations, one by one -/
def opsF (P : Program) (fb : Bool) (dr : Bool) : List ROp → St → (St → Prop) → Prop
  | [], s, K => K s
  | r :: rs, s, K => r.go P dr s fun s' => s'.fo fb fun s' => opsF P fb dr rs s' K
theorem opsF_eq {P : Program} {fb dr : Bool} : ∀ (rs : List ROp) (s : St) (K : St → Prop), opsF P fb dr rs s K = opsK P dr rs s K
  | [], _, _ => rfl
  | r :: rs, s, K => by
    simp only [opsF, opsK]
    rw [ROp.go_eq]
    congr 1
    funext s'
    rw [St.fo_eq, opsF_eq rs]

def soloF (P : Program) (fb : Bool) (p : Nat) : Nat → List ROp → St → (St → Prop) → Prop
  | _, [], s, K => K s
  | i, r :: rs, s, K => r.go P (!(Nat.beq i p)) s fun s' => s'.fo fb fun s' => soloF P fb p (i + 1) rs s' K
theorem soloF_eq {P : Program} {fb : Bool} {p : Nat} : ∀ (rs : List ROp) (i : Nat) (s : St) (K : St → Prop), soloF P fb p i rs s K = soloK P p i rs s K
  | [], _, _, _ => rfl
  | r :: rs, i, s, K => by
    simp only [soloF, soloK]
    rw [ROp.go_eq]
    congr 1
    funext s'
    rw [St.fo_eq, soloF_eq rs]

/-- a loop, as the run comes to it -/
structure LoopN (body : St → (AX → St → Prop) → Prop) (s : St) (Q : AX → St → Prop) : Prop where
  out : ∃ (I : Nat → St → Prop) (m : Nat) (s0 : St), Weak s s0 ∧ I m s0 ∧ ∀ m s, I m s → body s (thenQ (fun s' => ∃ m' s'', m' < m ∧ Weak s' s'' ∧ I m' s'') Q)
/-- a loop over an iterator, as the run comes to it -/
structure RangeN (P : Program) (g : Opd) (ps : List Nat) (a b : St → (AX → St → Prop) → Prop) (s : St) (Q : AX → St → Prop) : Prop where
  out : ∃ s0, Weak s s0 ∧ match s0.ev g with
    | .fn (.func gf) [] lb => hasBody P gf = true ∧ ∀ x : LB, (∀ y bs R, boxLoop bs s0.bs.length = some x → y.length = ps.length → roundW a b x (deownEnv s0.env) s0.bs.length ps y bs R → SemY P s0.bs.length y bs R) →
        ∃ QQ, Sem P gf ((.yl s0.bs.length :: lb).map AV.norm) (s0.bs ++ [.loop x]) QQ ∧ ∀ r bs', QQ r bs' → afterQ x s0 bs' Q
    | _ => False
def RC.go (P : Program) (fb : Bool) : RC → St → (AX → St → Prop) → Prop
  | .skip, s, Q => Q .normal s
  | .reg dr keep ops, s, Q => opsF P fb dr ops s fun s' => (s'.keep keep).fo fb fun s' => Q .normal s'
  | .solo p keep ops, s, Q => soloF P fb p 0 ops s fun s' => (s'.keep keep).fo fb fun s' => Q .normal s'
  | .mult keep ops, s, Q => multK P ops s fun s' => (s'.keep keep).fo fb fun s' => Q .normal s'
  | .seq a b, s, Q => a.go P fb s (thenQ (fun s' => b.go P fb s' Q) Q)
  | .cond c a b, s, Q => match s.ev c with
    | .bool t => (t = true → a.go P fb s Q) ∧ (t = false → b.go P fb s Q)
    | _ => False
  | .block id c, s, Q => c.go P fb s (blockQ id Q)
  | .loop c, s, Q => LoopN (fun s Q => c.go P fb s Q) s Q
  | .range g ps a b, s, Q => RangeN P g ps (fun s Q => a.go P true s Q) (fun s Q => b.go P true s Q) s Q
  | .exit id, s, Q => Q (.exit id) s
  | .ret, s, Q => Q .ret s
theorem RC.go_eq {P : Program} {fb : Bool} : ∀ (c : RC) (s : St) (Q : AX → St → Prop), c.go P fb s Q = c.wp P s Q
  | .skip, _, _ => rfl
  | .reg dr keep ops, s, Q => by simp only [RC.go, RC.wp, opsF_eq, St.fo_eq]
  | .solo p keep ops, s, Q => by simp only [RC.go, RC.wp, soloF_eq, St.fo_eq]
  | .mult keep ops, s, Q => by simp only [RC.go, RC.wp, St.fo_eq]
  | .seq a b, s, Q => by
    simp only [RC.go, RC.wp]
    rw [RC.go_eq a]
    congr 1
    funext x s'
    cases x <;> simp only [thenQ]
    exact RC.go_eq b s' Q
  | .cond c a b, s, Q => by
    simp only [RC.go, RC.wp]
    generalize s.ev c = v
    cases v <;> first | rfl | (simp only [RC.go_eq a, RC.go_eq b])
  | .block id c, s, Q => by simp only [RC.go, RC.wp]; exact RC.go_eq c s _
  | .loop c, s, Q => by
    have he : (fun s Q => c.go P fb s Q) = fun s Q => c.wp P s Q := by
      funext s Q
      exact RC.go_eq c s Q
    simp only [RC.go, RC.wp, he]
    exact propext ⟨fun h => h.out, fun h => ⟨h⟩⟩
  | .range g ps a b, s, Q => by
    have ha : (fun s Q => a.go P true s Q) = fun s Q => a.wp P s Q := by
      funext s Q
      exact RC.go_eq a s Q
    have hb : (fun s Q => b.go P true s Q) = fun s Q => b.wp P s Q := by
      funext s Q
      exact RC.go_eq b s Q
    simp only [RC.go, RC.wp, ha, hb]
    exact propext ⟨fun h => h.out, fun h => ⟨h⟩⟩
  | .exit id, _, _ => rfl
  | .ret, _, _ => rfl

/-! ### a function's end -/
/-- the result, as the run comes to it -/
structure RetN (s : St) (rs : List RRes) (Q : AV → List Box → Prop) : Prop where
  out : ∃ s', Weak s s' ∧ resK s' rs Q
/-- the result, written out -/
def resF (s : St) (rs : List RRes) (Q : AV → List Box → Prop) : Prop :=
  match rs with
  | [.slot t] => fv (s.get t) fun x => Q x s.bs
  | rs => resK s rs fun x bs => fv x fun x => Q x bs
theorem resF_eq {s : St} {rs : List RRes} {Q : AV → List Box → Prop} : resF s rs Q = resK s rs Q := by
  unfold resF
  split
  · rw [fv_eq]; rfl
  · simp only [fv_eq]
theorem RetN.id {s : St} {rs : List RRes} {Q : AV → List Box → Prop} (h : resF s rs Q) : RetN s rs Q := ⟨s, Weak.refl s, by rw [← resF_eq]; exact h⟩
/-- the result owns what it has -/
theorem RetN.claim {s : St} {t : Nat} {Q : AV → List Box → Prop} (z : Nat) {l : List AV} (h0 : envGet s.env t = some (.sl .full l)) (hz : ∀ y ∈ l, y.cells.length = z) (h : Q (.sl (.own z) l) s.bs) : RetN s [.slot t] Q :=
  ⟨_, Weak.claim s t z l h0 hz, by
    have : (s.put (some t) (.sl (.own z) l)).get t = .sl (.own z) l := by simp [St.get, St.put, envGet_put]
    simp only [resK]
    rw [this]; exact h⟩
/-- what is known of the result's capacity, forgotten -/
theorem RetN.norm {s : St} {t : Nat} {Q : AV → List Box → Prop} {x : AV} (h0 : envGet s.env t = some x) (h : fv x.norm fun x => Q x s.bs) : RetN s [.slot t] Q :=
  ⟨_, Weak.norm s t x h0, by
    have : (s.put (some t) x.norm).get t = x.norm := by simp [St.get, St.put, envGet_put]
    simp only [resK]
    rw [fv_eq] at h
    rw [this]; exact h⟩
def retN (rs : List RRes) (Q : AV → List Box → Prop) : AX → St → Prop
  | .normal, s => RetN s rs Q
  | .ret, s => RetN s rs Q
  | _, _ => False

/-- what a function's run shows -/
theorem run_of {P : Program} {fb : Bool} {c : RC} {vals : List AV} {bs : List Box} {rs : List RRes} {Q : AV → List Box → Prop} (h : (⟨params 0 vals, bs, bs.length⟩ : St).fo fb fun s => c.go P fb s (retN rs Q)) : c.wp P ⟨params 0 vals, bs, bs.length⟩ fun x s => ∃ s', Weak s s' ∧ retQ rs Q x s' := by
  rw [St.fo_eq, RC.go_eq] at h
  have : (fun x s => ∃ s', Weak s s' ∧ retQ rs Q x s') = retN rs Q := by
    funext x s
    cases x with
    | normal => exact propext ⟨fun h => ⟨h⟩, fun h => h.out⟩
    | ret => exact propext ⟨fun h => ⟨h⟩, fun h => h.out⟩
    | exit id => exact propext ⟨fun ⟨_, _, h⟩ => h, fun h => h.elim⟩
  rw [this]; exact h

/-! ### loops -/
/-- a round's end: less is known in t than in s -/
structure EndN (s t : St) : Prop where
  out : Weak s t
theorem EndN.eq {s t : St} (h1 : fEnv true t.env fun e => s.env = e) (h2 : fBs t.bs fun b => s.bs = b) (h3 : s.lo = t.lo) : EndN s t := by
  rw [fEnv_eq] at h1
  rw [fBs_eq] at h2
  obtain ⟨a, b, c⟩ := s
  obtain ⟨a', b', c'⟩ := t
  simp only at h1 h2 h3
  subst h1 h2 h3
  exact ⟨Weak.refl _⟩
/-- the boxes from n on are of no use any more -/
theorem EndN.cut {s t : St} (n : Nat) (hlo : Nat.ble s.lo n = true) (hn : Nat.ble n s.bs.length = true) (h1 : envLt n s.env = true) (h2 : boxesLt n (s.bs.take n) = true) (h : EndN ⟨s.env, s.bs.take n, s.lo⟩ t) : EndN s t :=
  ⟨(Weak.cut s n (Nat.le_of_ble_eq_true hlo) (Nat.le_of_ble_eq_true hn) h1 h2).trans h.out⟩
theorem EndN.claim {s t : St} (k z : Nat) {l : List AV} (h0 : envGet s.env k = some (.sl .full l)) (hz : ∀ y ∈ l, y.cells.length = z) (h : EndN (s.put (some k) (.sl (.own z) l)) t) : EndN s t := ⟨(Weak.claim s k z l h0 hz).trans h.out⟩
theorem EndN.norm {s t : St} (k : Nat) {x : AV} (h0 : envGet s.env k = some x) (h : EndN (s.put (some k) x.norm) t) : EndN s t := ⟨(Weak.norm s k x h0).trans h.out⟩

/-- A loop. up s a: the state at a round's head, s being the one ahead of the loop; inv: what holds of a; mu goes down. -/
theorem LoopN.by {P : Program} {fb : Bool} {c : RC} {s : St} {Q : AX → St → Prop} {α : Type} (up : St → α → St) (inv : α → Prop) (mu : α → Nat) (a0 : α) (h0 : inv a0) (hw : EndN s (up s a0))
    (round : ∀ a, inv a → (up s a).fo fb fun s1 => c.go P fb s1 (thenQ (fun s' => ∃ a', (inv a' ∧ mu a' < mu a) ∧ EndN s' (up s a')) Q)) : LoopN (fun s Q => c.go P fb s Q) s Q := by
  refine ⟨fun m s1 => ∃ a, m = mu a ∧ inv a ∧ s1 = up s a, mu a0, up s a0, hw.out, ⟨a0, rfl, h0, rfl⟩, ?_⟩
  rintro m s1 ⟨a, rfl, ha, rfl⟩
  have := round a ha
  rw [St.fo_eq, RC.go_eq] at this
  rw [RC.go_eq]
  refine RC.wp_mono (fun x s' hx => ?_) this
  cases x with
  | normal =>
    obtain ⟨a', ⟨h1, h2⟩, h3⟩ := hx
    exact ⟨mu a', up s a', h2, h3.out, a', rfl, h1, rfl⟩
  | exit id => exact hx
  | ret => exact hx
end Go.AM
