/-
  Texts of this claim joined (wip/gen/bundle.py), those declarations only that are needed: AmF AmG AmH AmJ AmK. By an AI agent.
-/
import Derived.Test.YtamhnlajkncccaaGreatBam
set_option linter.unusedSimpArgs false
set_option linter.unusedVariables false
namespace Go.AM
open Go.CK Go.RowKit

def lits : List Nat := [0, 1, 2, 3, 4, 5, 6, 7, 8, 9, 10, 11, 12, 13, 14, 15, 16, 17, 18, 19, 20, 21, 22, 23, 24, 25, 26, 27, 28, 29, 30, 31, 32, 33, 34, 35, 36, 37, 38, 39, 40]
/-- a number that is no more than 40, written out -/
def natF (n : Nat) (K : Nat → Prop) : Prop :=
  match lits[n]? with
  | some m => K m
  | none => K n
theorem natF_eq (n : Nat) (K : Nat → Prop) : natF n K = K n := by
  unfold natF
  split
  · rename_i m h
    have : m = n := by
      have hlt : n < lits.length := by
        rcases Nat.lt_or_ge n lits.length with h1 | h1
        · exact h1
        · rw [List.getElem?_eq_none h1] at h; cases h
      have hall : ∀ k, (hk : k < lits.length) → lits[k] = k := by decide
      rw [List.getElem?_eq_getElem hlt] at h
      cases h
      exact hall n hlt
    rw [this]
  · rfl

/-- the head of a value that is no list of values -/
def f1 (x : AV) (K : AV → Prop) : Prop :=
  match x with
  | .top => K .top
  | .bool b => K (.bool b)
  | .int k n => K (.int k n)
  | .str s => K (.str s)
  | .sl o l => match o with
    | .no => K (.sl .no l)
    | .full => K (.sl .full l)
    | .own z => K (.sl (.own z) l)
  | .agg cs => K (.agg cs)
  | .tup vs => K (.tup vs)
  | .ptr b off => natF b fun b => natF off fun off => K (.ptr b off)
  | .nptr => K .nptr
  | .ept cs => K (.ept cs)
  | .fn f xs ys => K (.fn f xs ys)
  | .yl b => K (.yl b)
  | .bsl b m k => natF b fun b => K (.bsl b m k)
  | .elp b i z off => natF b fun b => K (.elp b i z off)
  | .mpt b => natF b fun b => K (.mpt b)
  | .nfn => K .nfn
  | .nmp => K .nmp
  | .nifc => K .nifc
theorem f1_eq (x : AV) (K : AV → Prop) : f1 x K = K x := by
  cases x <;> first | (simp only [f1, natF_eq]; done) | skip
  rename_i o l
  cases o <;> rfl
def fs (l : List AV) (K : List AV → Prop) : Prop :=
  match l with
  | [] => K []
  | x :: xs => f1 x fun x => fs xs fun xs => K (x :: xs)
theorem fs_eq : ∀ (l : List AV) (K : List AV → Prop), fs l K = K l
  | [], _ => rfl
  | x :: xs, K => by rw [fs, f1_eq, fs_eq xs]
/-- a value, written out -/
def fv (x : AV) (K : AV → Prop) : Prop :=
  match x with
  | .agg cs => fs cs fun cs => K (.agg cs)
  | .tup cs => fs cs fun cs => K (.tup cs)
  | .ept cs => fs cs fun cs => K (.ept cs)
  | .fn f xs ys => fs xs fun xs => fs ys fun ys => K (.fn f xs ys)
  | x => f1 x K
theorem fv_eq (x : AV) (K : AV → Prop) : fv x K = K x := by
  cases x <;> simp only [fv, fs_eq, f1_eq]
def fvs (l : List AV) (K : List AV → Prop) : Prop :=
  match l with
  | [] => K []
  | x :: xs => fv x fun x => fvs xs fun xs => K (x :: xs)
theorem fvs_eq : ∀ (l : List AV) (K : List AV → Prop), fvs l K = K l
  | [], _ => rfl
  | x :: xs, K => by rw [fvs, fv_eq, fvs_eq xs]
/-- the same, but for a pointer's numbers -/
def fvq (x : AV) (K : AV → Prop) : Prop :=
  match x with
  | .ptr b off => K (.ptr b off)
  | .bsl b m k => K (.bsl b m k)
  | .elp b i z off => K (.elp b i z off)
  | .mpt b => K (.mpt b)
  | .fn f xs ys => K (.fn f xs ys)
  | x => fv x K
theorem fvq_eq (x : AV) (K : AV → Prop) : fvq x K = K x := by
  cases x <;> simp only [fvq, fv_eq]
def fvqs (l : List AV) (K : List AV → Prop) : Prop :=
  match l with
  | [] => K []
  | x :: xs => fvq x fun x => fvqs xs fun xs => K (x :: xs)
theorem fvqs_eq : ∀ (l : List AV) (K : List AV → Prop), fvqs l K = K l
  | [], _ => rfl
  | x :: xs, K => by rw [fvqs, fvq_eq, fvqs_eq xs]
/-- a value, written out; but a pointer's numbers when fb is false -/
def fvn (fb : Bool) (x : AV) (K : AV → Prop) : Prop :=
  match fb with
  | true => fv x K
  | false => fvq x K
theorem fvn_eq (fb : Bool) (x : AV) (K : AV → Prop) : fvn fb x K = K x := by
  cases fb
  · simp only [fvn, fvq_eq]
  · simp only [fvn, fv_eq]
def fEnv (fb : Bool) (e : List (Nat × AV)) (K : List (Nat × AV) → Prop) : Prop :=
  match e with
  | [] => K []
  | (t, x) :: r => fvn fb x fun x => fEnv fb r fun r => K ((t, x) :: r)
theorem fEnv_eq (fb : Bool) : ∀ (e : List (Nat × AV)) (K : List (Nat × AV) → Prop), fEnv fb e K = K e
  | [], _ => rfl
  | (t, x) :: r, K => by rw [fEnv, fvn_eq, fEnv_eq fb r]
def fBs (e : List Box) (K : List Box → Prop) : Prop :=
  match e with
  | [] => K []
  | .cells cs :: r => fs cs fun cs => fBs r fun r => K (.cells cs :: r)
  | .dead :: r => fBs r fun r => K (.dead :: r)
  | .loop x :: r => fBs r fun r => K (.loop x :: r)
  | .row x :: r => fBs r fun r => K (.row x :: r)
  | .mp x :: r => fBs r fun r => K (.mp x :: r)
theorem fBs_eq : ∀ (e : List Box) (K : List Box → Prop), fBs e K = K e
  | [], _ => rfl
  | .cells cs :: r, K => by rw [fBs, fs_eq, fBs_eq r]
  | .dead :: r, K => by rw [fBs, fBs_eq r]
  | .loop x :: r, K => by rw [fBs, fBs_eq r]
  | .row x :: r, K => by rw [fBs, fBs_eq r]
  | .mp x :: r, K => by rw [fBs, fBs_eq r]
/-- fb: the boxes too -/
def St.fo (fb : Bool) (s : St) (K : St → Prop) : Prop := match s with
  | ⟨e, bs, lo⟩ => fEnv fb e fun e => match fb with
    | true => fBs bs fun bs => natF lo fun lo => K ⟨e, bs, lo⟩
    | false => K ⟨e, bs, lo⟩
theorem St.fo_eq (fb : Bool) (s : St) (K : St → Prop) : s.fo fb K = K s := by
  cases fb <;> simp only [St.fo, fEnv_eq, fBs_eq, natF_eq]

/-- a call, as the run comes to it -/
structure CallN (P : Program) (f : FuncId) (vals raw : List AV) (bs : List Box) (K : AV → List Box → Prop) : Prop where
  sem : ∃ Q, (Sem P f vals bs Q ∨ Sem P f raw bs Q) ∧ ∀ r bs', Q r bs' → K r bs'
theorem CallN.of {P : Program} {f : FuncId} {vals raw : List AV} {bs : List Box} {K : AV → List Box → Prop} {Q : AV → List Box → Prop} (h : Sem P f vals bs Q) (hK : ∀ r bs', Q r bs' → K r bs') : CallN P f vals raw bs K := ⟨Q, .inl h, hK⟩
/-- the arguments with what is known of their capacities -/
theorem CallN.raw {P : Program} {f : FuncId} {vals raw : List AV} {bs : List Box} {K : AV → List Box → Prop} {Q : AV → List Box → Prop} (h : Sem P f raw bs Q) (hK : ∀ r bs', Q r bs' → K r bs') : CallN P f vals raw bs K := ⟨Q, .inr h, hK⟩
theorem CallN.fn {P : Program} {f : FuncId} {vals raw : List AV} {bs : List Box} {K : AV → List Box → Prop} {r : AV} (h : Fun P f vals r) (hK : K r bs) : CallN P f vals raw bs K := ⟨_, .inl (h bs), fun r' bs' ⟨e1, e2⟩ => by subst e1 e2; exact hK⟩
/-- the same in a region that draws its order: the contract must be exact -/
structure CallP (P : Program) (f : FuncId) (vals : List AV) (K : AV → Prop) : Prop where
  sem : ∃ r, Fun P f vals r ∧ K r
theorem CallP.fn {P : Program} {f : FuncId} {vals : List AV} {K : AV → Prop} {r : AV} (h : Fun P f vals r) (hK : K r) : CallP P f vals K := ⟨r, h, hK⟩

/-- a call of yield, as the run comes to it -/
structure YieldN (P : Program) (b : Nat) (vals : List AV) (bs : List Box) (K : AV → List Box → Prop) : Prop where
  sem : ∃ Q, SemY P b vals bs Q ∧ ∀ r bs', Q r bs' → K r bs'
theorem YieldN.of {P : Program} {b : Nat} {vals : List AV} {bs : List Box} {K : AV → List Box → Prop} {Q : AV → List Box → Prop} (h : SemY P b vals bs Q) (hK : ∀ r bs', Q r bs' → K r bs') : YieldN P b vals bs K := ⟨Q, h, hK⟩

/-- a state turned, its parts written out -/
def St.pt (s : St) (d : Option Nat) (x : AV) : St := match s with
  | ⟨e, bs, lo⟩ => match d with
    | some k => ⟨envPut e k x, bs, lo⟩
    | none => ⟨e, bs, lo⟩
theorem St.pt_eq (s : St) (d : Option Nat) (x : AV) : s.pt d x = s.put d x := by cases s; cases d <;> rfl
def St.kp (s : St) (ks : List Nat) : St := match s with
  | ⟨e, bs, lo⟩ => ⟨envKeep (fun k => mem k ks) e, bs, lo⟩
def St.wb (s : St) (bs' : List Box) : St := match s with
  | ⟨e, _, lo⟩ => ⟨e, bs', lo⟩
theorem St.wb_eq (s : St) (bs' : List Box) : s.wb bs' = ⟨s.env, bs', s.lo⟩ := by cases s; rfl
def fsq (l : List AV) (K : List AV → Prop) : Prop := fvqs l K
theorem fsq_eq (l : List AV) (K : List AV → Prop) : fsq l K = K l := fvqs_eq l K
def callF (P : Program) (dr : Bool) (s : St) (d : Option Nat) (f : AV) (args : List AV) (K : St → Prop) : Prop :=
  match f with
  | .fn (.func f) xs ys => fvqs ((xs ++ args ++ ys).map AV.norm) fun vals => match dr with
    | true => CallP P f vals fun r => K (s.pt d r)
    | false => match s with
      | ⟨e, bs, lo⟩ => CallN P f vals (xs ++ args ++ ys) bs fun r bs' => K (St.pt ⟨e, bs', lo⟩ d r)
  | .yl b => match dr with
    | true => False
    | false => fvqs (args.map AV.norm) fun vals => match s with
      | ⟨e, bs, lo⟩ => YieldN P b vals bs fun r bs' => K (St.pt ⟨e, bs', lo⟩ d r)
  | _ => False
theorem callF_eq {P : Program} {dr : Bool} {s : St} {d : Option Nat} {f : AV} {args : List AV} {K : St → Prop} : callF P dr s d f args K = (match dr with
    | true => pcallK P f args fun r => K (s.put d r)
    | false => callK P s d f args K) := by
  cases dr with
  | true =>
    cases f <;> try rfl
    rename_i f xs ys
    cases f <;> try rfl
    simp only [callF, pcallK, fvqs_eq, St.pt_eq]
    exact propext ⟨fun h => h.sem, fun h => ⟨h⟩⟩
  | false =>
    cases f <;> try rfl
    · rename_i f xs ys
      cases f <;> try rfl
      simp only [callF, callK, fvqs_eq, St.pt_eq, St.wb_eq]
      exact propext ⟨fun h => h.sem, fun h => ⟨h⟩⟩
    · simp only [callF, callK, fvqs_eq, St.pt_eq, St.wb_eq]
      exact propext ⟨fun h => h.sem, fun h => ⟨h⟩⟩

def RX.go (P : Program) (dr : Bool) (rx : RX) (s : St) (d : Option Nat) (K : St → Prop) : Prop :=
  match rx with
  | .call f args => callF P dr s d (s.ev f) (evs s.ev args) K
  | .callv f args => callable P (s.ev f) ∧ callF P dr s d (s.ev f) (evs s.ev args) K
  | rx => rx.run P dr s d K
theorem RX.go_eq {P : Program} {dr : Bool} {rx : RX} {s : St} {d : Option Nat} {K : St → Prop} : rx.go P dr s d K = rx.run P dr s d K := by
  cases rx <;> try rfl
  · cases dr <;> simp only [RX.go, RX.run, callF_eq]
  · cases dr <;> simp only [RX.go, RX.run, callF_eq]
def ROp.go (P : Program) (dr : Bool) (r : ROp) (s : St) (K : St → Prop) : Prop :=
  match r.guard with
  | none => r.rx.go P dr s r.dst K
  | some (g, want) => match gv want (s.ev (.t g)) with
    | some b => (b = want → r.rx.go P dr s r.dst K) ∧ (b ≠ want → K (s.put r.dst (.tup [])))
    | none => False
theorem ROp.go_eq {P : Program} {dr : Bool} {r : ROp} {s : St} {K : St → Prop} : r.go P dr s K = r.run P dr s K := by
  unfold ROp.go ROp.run
  cases r.guard with
  | none => exact RX.go_eq
  | some q =>
    obtain ⟨g, want⟩ := q
    simp only
    cases gv want (s.ev (.t g)) <;> first | rfl | (simp only [RX.go_eq])

/-- the operations, one by one -/
def opsF (P : Program) (fb : Bool) (dr : Bool) : List ROp → St → (St → Prop) → Prop
  | [], s, K => K s
  | r :: rs, s, K => r.go P dr s fun s' => s'.fo fb fun s' => opsF P fb dr rs s' K
theorem opsF_eq {P : Program} {fb dr : Bool} : ∀ (rs : List ROp) (s : St) (K : St → Prop), opsF P fb dr rs s K = opsK P dr rs s K
  | [], _, _ => rfl
  | r :: rs, s, K => by
    simp only [opsF, opsK]
    rw [ROp.go_eq]
    congr 1
    funext s'
    rw [St.fo_eq, opsF_eq rs]

def soloF (P : Program) (fb : Bool) (p : Nat) : Nat → List ROp → St → (St → Prop) → Prop
  | _, [], s, K => K s
  | i, r :: rs, s, K => r.go P (!(Nat.beq i p)) s fun s' => s'.fo fb fun s' => soloF P fb p (i + 1) rs s' K
theorem soloF_eq {P : Program} {fb : Bool} {p : Nat} : ∀ (rs : List ROp) (i : Nat) (s : St) (K : St → Prop), soloF P fb p i rs s K = soloK P p i rs s K
  | [], _, _, _ => rfl
  | r :: rs, i, s, K => by
    simp only [soloF, soloK]
    rw [ROp.go_eq]
    congr 1
    funext s'
    rw [St.fo_eq, soloF_eq rs]

/-- a loop, as the run comes to it -/
structure LoopN (body : St → (AX → St → Prop) → Prop) (s : St) (Q : AX → St → Prop) : Prop where
  out : ∃ (I : Nat → St → Prop) (m : Nat) (s0 : St), Weak s s0 ∧ I m s0 ∧ ∀ m s, I m s → body s (thenQ (fun s' => ∃ m' s'', m' < m ∧ Weak s' s'' ∧ I m' s'') Q)
/-- a loop over an iterator, as the run comes to it -/
structure RangeN (P : Program) (g : Opd) (ps : List Nat) (a b : St → (AX → St → Prop) → Prop) (s : St) (Q : AX → St → Prop) : Prop where
  out : ∃ s0, Weak s s0 ∧ match s0.ev g with
    | .fn (.func gf) [] lb => hasBody P gf = true ∧ ∀ x : LB, (∀ y bs R, boxLoop bs s0.bs.length = some x → y.length = ps.length → roundW a b x (deownEnv s0.env) s0.bs.length ps y bs R → SemY P s0.bs.length y bs R) →
        ∃ QQ, Sem P gf ((.yl s0.bs.length :: lb).map AV.norm) (s0.bs ++ [.loop x]) QQ ∧ ∀ r bs', QQ r bs' → afterQ x s0 bs' Q
    | _ => False
def RC.go (P : Program) (fb : Bool) : RC → St → (AX → St → Prop) → Prop
  | .skip, s, Q => Q .normal s
  | .reg dr keep ops, s, Q => opsF P fb dr ops s fun s' => (s'.keep keep).fo fb fun s' => Q .normal s'
  | .solo p keep ops, s, Q => soloF P fb p 0 ops s fun s' => (s'.keep keep).fo fb fun s' => Q .normal s'
  | .mult keep ops, s, Q => multK P ops s fun s' => (s'.keep keep).fo fb fun s' => Q .normal s'
  | .both keep qa q1 q2, s, Q => multK P qa s fun sA => multK P q1 sA (fun s' => (s'.keep keep).fo fb fun s' => Q .normal s') ∧ multK P q2 sA (fun s' => (s'.keep keep).fo fb fun s' => Q .normal s')
  | .seq a b, s, Q => a.go P fb s (thenQ (fun s' => b.go P fb s' Q) Q)
  | .cond c a b, s, Q => match s.ev c with
    | .bool t => (t = true → a.go P fb s Q) ∧ (t = false → b.go P fb s Q)
    | _ => False
  | .block id c, s, Q => c.go P fb s (blockQ id Q)
  | .loop c, s, Q => LoopN (fun s Q => c.go P fb s Q) s Q
  | .range g ps a b, s, Q => RangeN P g ps (fun s Q => a.go P true s Q) (fun s Q => b.go P true s Q) s Q
  | .exit id, s, Q => Q (.exit id) s
  | .ret, s, Q => Q .ret s
theorem RC.go_eq {P : Program} {fb : Bool} : ∀ (c : RC) (s : St) (Q : AX → St → Prop), c.go P fb s Q = c.wp P s Q
  | .skip, _, _ => rfl
  | .reg dr keep ops, s, Q => by simp only [RC.go, RC.wp, opsF_eq, St.fo_eq]
  | .solo p keep ops, s, Q => by simp only [RC.go, RC.wp, soloF_eq, St.fo_eq]
  | .mult keep ops, s, Q => by simp only [RC.go, RC.wp, St.fo_eq]
  | .both keep qa q1 q2, s, Q => by simp only [RC.go, RC.wp, St.fo_eq]
  | .seq a b, s, Q => by
    simp only [RC.go, RC.wp]
    rw [RC.go_eq a]
    congr 1
    funext x s'
    cases x <;> simp only [thenQ]
    exact RC.go_eq b s' Q
  | .cond c a b, s, Q => by
    simp only [RC.go, RC.wp]
    generalize s.ev c = v
    cases v <;> first | rfl | (simp only [RC.go_eq a, RC.go_eq b])
  | .block id c, s, Q => by simp only [RC.go, RC.wp]; exact RC.go_eq c s _
  | .loop c, s, Q => by
    have he : (fun s Q => c.go P fb s Q) = fun s Q => c.wp P s Q := by
      funext s Q
      exact RC.go_eq c s Q
    simp only [RC.go, RC.wp, he]
    exact propext ⟨fun h => h.out, fun h => ⟨h⟩⟩
  | .range g ps a b, s, Q => by
    have ha : (fun s Q => a.go P true s Q) = fun s Q => a.wp P s Q := by
      funext s Q
      exact RC.go_eq a s Q
    have hb : (fun s Q => b.go P true s Q) = fun s Q => b.wp P s Q := by
      funext s Q
      exact RC.go_eq b s Q
    simp only [RC.go, RC.wp, ha, hb]
    exact propext ⟨fun h => h.out, fun h => ⟨h⟩⟩
  | .exit id, _, _ => rfl
  | .ret, _, _ => rfl

/-- the result, as the run comes to it -/
structure RetN (s : St) (rs : List RRes) (Q : AV → List Box → Prop) : Prop where
  out : ∃ s', Weak s s' ∧ resK s' rs Q
/-- the result, written out -/
def resF (s : St) (rs : List RRes) (Q : AV → List Box → Prop) : Prop :=
  match rs with
  | [.slot t] => fv (s.get t) fun x => Q x s.bs
  | rs => resK s rs fun x bs => fv x fun x => Q x bs
theorem resF_eq {s : St} {rs : List RRes} {Q : AV → List Box → Prop} : resF s rs Q = resK s rs Q := by
  unfold resF
  split
  · rw [fv_eq]; rfl
  · simp only [fv_eq]
theorem RetN.id {s : St} {rs : List RRes} {Q : AV → List Box → Prop} (h : resF s rs Q) : RetN s rs Q := ⟨s, Weak.refl s, by rw [← resF_eq]; exact h⟩
/-- the result owns what it has -/
theorem RetN.claim {s : St} {t : Nat} {Q : AV → List Box → Prop} (z : Nat) {l : List AV} (h0 : envGet s.env t = some (.sl .full l)) (hz : ∀ y ∈ l, y.cells.length = z) (h : Q (.sl (.own z) l) s.bs) : RetN s [.slot t] Q :=
  ⟨_, Weak.claim s t z l h0 hz, by
    have : (s.put (some t) (.sl (.own z) l)).get t = .sl (.own z) l := by simp [St.get, St.put, envGet_put]
    simp only [resK]
    rw [this]; exact h⟩
/-- what is known of the result's capacity, forgotten -/
theorem RetN.norm {s : St} {t : Nat} {Q : AV → List Box → Prop} {x : AV} (h0 : envGet s.env t = some x) (h : fv x.norm fun x => Q x s.bs) : RetN s [.slot t] Q :=
  ⟨_, Weak.norm s t x h0, by
    have : (s.put (some t) x.norm).get t = x.norm := by simp [St.get, St.put, envGet_put]
    simp only [resK]
    rw [fv_eq] at h
    rw [this]; exact h⟩
/-- a round's end: less is known in t than in s -/
structure EndN (s t : St) : Prop where
  out : Weak s t
theorem EndN.eq {s t : St} (h1 : fEnv true t.env fun e => s.env = e) (h2 : fBs t.bs fun b => s.bs = b) (h3 : s.lo = t.lo) : EndN s t := by
  rw [fEnv_eq] at h1
  rw [fBs_eq] at h2
  obtain ⟨a, b, c⟩ := s
  obtain ⟨a', b', c'⟩ := t
  simp only at h1 h2 h3
  subst h1 h2 h3
  exact ⟨Weak.refl _⟩
/-- the boxes from n on are of no use any more -/
theorem EndN.cut {s t : St} (n : Nat) (hlo : Nat.ble s.lo n = true) (hn : Nat.ble n s.bs.length = true) (h1 : envLt n s.env = true) (h2 : boxesLt n (s.bs.take n) = true) (h : EndN ⟨s.env, s.bs.take n, s.lo⟩ t) : EndN s t :=
  ⟨(Weak.cut s n (Nat.le_of_ble_eq_true hlo) (Nat.le_of_ble_eq_true hn) h1 h2).trans h.out⟩
theorem EndN.claim {s t : St} (k z : Nat) {l : List AV} (h0 : envGet s.env k = some (.sl .full l)) (hz : ∀ y ∈ l, y.cells.length = z) (h : EndN (s.put (some k) (.sl (.own z) l)) t) : EndN s t := ⟨(Weak.claim s k z l h0 hz).trans h.out⟩
theorem EndN.norm {s t : St} (k : Nat) {x : AV} (h0 : envGet s.env k = some x) (h : EndN (s.put (some k) x.norm) t) : EndN s t := ⟨(Weak.norm s k x h0).trans h.out⟩

/-- A loop. up s a: the state at a round's head, s being the one ahead of the loop; inv: what holds of a; mu goes down. -/
theorem LoopN.by {P : Program} {fb : Bool} {c : RC} {s : St} {Q : AX → St → Prop} {α : Type} (up : St → α → St) (inv : α → Prop) (mu : α → Nat) (a0 : α) (h0 : inv a0) (hw : EndN s (up s a0))
    (round : ∀ a, inv a → (up s a).fo fb fun s1 => c.go P fb s1 (thenQ (fun s' => ∃ a', (inv a' ∧ mu a' < mu a) ∧ EndN s' (up s a')) Q)) : LoopN (fun s Q => c.go P fb s Q) s Q := by
  refine ⟨fun m s1 => ∃ a, m = mu a ∧ inv a ∧ s1 = up s a, mu a0, up s a0, hw.out, ⟨a0, rfl, h0, rfl⟩, ?_⟩
  rintro m s1 ⟨a, rfl, ha, rfl⟩
  have := round a ha
  rw [St.fo_eq, RC.go_eq] at this
  rw [RC.go_eq]
  refine RC.wp_mono (fun x s' hx => ?_) this
  cases x with
  | normal =>
    obtain ⟨a', ⟨h1, h2⟩, h3⟩ := hx
    exact ⟨mu a', up s a', h2, h3.out, a', rfl, h1, rfl⟩
  | exit id => exact hx
  | ret => exact hx
end Go.AM

namespace Go.AM
open Go.CK Go.RowKit

/-- Function gf with the values lb bound is an iterator: it hands on the values of xs, in their order, till it is told to stop. -/
def Iter (P : Program) (gf : FuncId) (lb : List AV) (xs : List (List AV)) : Prop :=
  ∀ (b : Nat) (bs : List Box) (J : List (List AV) → List Box → Prop) (Jx : List Box → Prop),
    (∀ pre y rest bs, pre ++ y :: rest = xs → J pre bs → SemY P b y bs fun r bs' => (r = .bool true ∧ J (pre ++ [y]) bs') ∨ (r = .bool false ∧ Jx bs')) → J [] bs →
    Sem P gf (.yl b :: lb) bs fun _ bs' => J xs bs' ∨ Jx bs'

/-- a round's end -/
structure RoundN (s : St) (e : AX) (J : AX → List Box → Prop) : Prop where
  out : ∃ s3 own, Weak s s3 ∧ s3.bs = own ++ [.dead] ∧ J e own
theorem RoundN.by {s : St} {e : AX} {J : AX → List Box → Prop} (own : List Box) (lo : Nat) (h : EndN s ⟨[], own ++ [.dead], lo⟩) (hJ : J e own) : RoundN s e J := ⟨_, own, h.out, rfl, hJ⟩
/-- behind the round's assignments -/
def asgN (x : LB) (n : Nat) (K : St → Prop) : AX → St → Prop
  | .normal, s => boxLoop s.bs n = some x ∧ (⟨s.env, s.bs.set n .dead, s.lo⟩ : St).fo true K
  | _, _ => False

theorem EndN.drop {s t : St} (h : EndN ⟨[], s.bs, s.lo⟩ t) : EndN s t := ⟨by
  refine (Weak.keep s []).trans ?_
  have : ∀ e : List (Nat × AV), envKeep (fun k => mem k []) e = [] := fun e => by
    induction e with
    | nil => rfl
    | cons p e ih => obtain ⟨k, v⟩ := p; simpa [envKeep, mem] using ih
  have he : s.keep [] = ⟨[], s.bs, s.lo⟩ := by simp only [St.keep, this]
  rw [he]; exact h.out⟩
theorem EndN.claimB {s t : St} (b off z : Nat) {l : List AV} (h0 : s.at (.bx b off) = some (.sl .full l)) (hz : ∀ y ∈ l, y.cells.length = z) (h : EndN (s.upd (.bx b off) (.sl (.own z) l)) t) : EndN s t :=
  ⟨Weak.trans (fun _ G _ _ hs => ⟨G, hs.claim h0 hz⟩) h.out⟩

theorem set_snoc {own : List Box} {n : Nat} (h : own.length = n) (x y : Box) : (own ++ [x]).set n y = own ++ [y] := by
  subst h; simp

theorem RangeN.by {P : Program} {g : Opd} {ps : List Nat} {a b : RC} {s : St} {Q : AX → St → Prop} (s0 : St) {gf : FuncId} {lb : List AV} {xs : List (List AV)} (hw : EndN s s0) (hg : s0.ev g = .fn (.func gf) [] lb) (hbd : hasBody P gf = true) (hi : Iter P gf (lb.map AV.norm) xs) (hlen : ∀ y ∈ xs, y.length = ps.length)
    (I : List (List AV) → List Box → Prop) (Ix : AX → List Box → Prop) (h0 : I [] s0.bs) (hI : ∀ pre own, I pre own → own.length = s0.bs.length) (hIx : ∀ e own, Ix e own → own.length = s0.bs.length)
    (round : ∀ x pre y rest own, pre ++ y :: rest = xs → I pre own → (⟨putAll (deownEnv s0.env) ps y, own ++ [.loop x], own.length + 1⟩ : St).fo true fun s1 => a.go P true s1 (asgN x s0.bs.length fun s2 => b.go P true s2 fun e s3 => RoundN s3 e fun e own => match e with | .normal => I (pre ++ [y]) own | e => Ix e own))
    (done : ∀ own, I xs own → (⟨s0.env, own ++ [.dead], s0.lo⟩ : St).fo true fun s' => Q .normal s') (stop : ∀ e own, Ix e own → (⟨s0.env, own ++ [.dead], s0.lo⟩ : St).fo true fun s' => Q e s') :
    RangeN P g ps (fun s Q => a.go P true s Q) (fun s Q => b.go P true s Q) s Q := by
  refine ⟨⟨s0, hw.out, ?_⟩⟩
  rw [hg]
  refine ⟨hbd, fun x hx => ?_⟩
  have hbl : ∀ own (y : LB), own.length = s0.bs.length → boxLoop (own ++ [.loop y]) s0.bs.length = some y := fun own y h => by rw [boxLoop_snoc, if_pos h.symm]
  have hS := hi s0.bs.length (s0.bs ++ [Box.loop x]) (fun pre bs => ∃ own, I pre own ∧ bs = own ++ [Box.loop x])
    (fun bs => ∃ e own, Ix e own ∧ ((e = .ret ∧ bs = own ++ [Box.loop (x.done .ret)]) ∨ ∃ id, e = .exit id ∧ bs = own ++ [Box.loop (x.done (.exit id))])) ?_ ⟨_, h0, rfl⟩
  refine ⟨_, hS, ?_⟩
  rotate_left
  · rintro pre y rest bs hxs ⟨own, hown, rfl⟩
    have hl := hI pre own hown
    refine hx y _ _ (hbl own x hl) (hlen y (by rw [← hxs]; simp)) ?_
    have hr := round x pre y rest own hxs hown
    rw [St.fo_eq, RC.go_eq] at hr
    unfold roundW
    simp only [RC.go_eq, List.length_append, List.length_cons, List.length_nil, Nat.zero_add]
    refine RC.wp_mono (fun e s1 h1 => ?_) hr
    cases e with
    | ret => exact h1
    | exit id => exact h1
    | normal =>
      obtain ⟨h2, h3⟩ := h1
      refine ⟨h2, ?_⟩
      rw [St.fo_eq, RC.go_eq] at h3
      refine RC.wp_mono (fun e s3 h4 => ?_) h3
      obtain ⟨s4, own', hw4, hb4, hJ⟩ := h4.out
      refine ⟨s4, hw4, ?_⟩
      cases e with
      | normal =>
        simp only [roundQ, hb4]
        exact .inl ⟨trivial, own', hJ, set_snoc (hI _ _ hJ) _ _⟩
      | ret =>
        simp only [roundQ, hb4]
        exact .inr ⟨trivial, .ret, own', hJ, .inl ⟨rfl, set_snoc (hIx _ _ hJ) _ _⟩⟩
      | exit id =>
        simp only [roundQ, hb4]
        exact .inr ⟨trivial, .exit id, own', hJ, .inr ⟨id, rfl, set_snoc (hIx _ _ hJ) _ _⟩⟩
  · rintro r bs' (⟨own, hown, rfl⟩ | ⟨e, own, hown, hb⟩)
    · have hl := hI _ own hown
      refine .inl ⟨hbl own x hl, ?_⟩
      rw [set_snoc hl]
      have := done own hown
      rwa [St.fo_eq] at this
    · have hl := hIx _ own hown
      have hs := stop e own hown
      rw [St.fo_eq] at hs
      rcases hb with ⟨rfl, rfl⟩ | ⟨id, rfl, rfl⟩
      · exact .inr (.inl ⟨hbl own _ hl, by rw [set_snoc hl]; exact hs⟩)
      · exact .inr (.inr ⟨id, hbl own _ hl, by rw [set_snoc hl]; exact hs⟩)
end Go.AM

namespace Go.AM
open Go.CK Go.RowKit

def thaw0 (b : Nat) (cs : List AV) : AV → AV
  | .ptr b' off => match Nat.beq b' b with
    | true => .ept (cs.drop off)
    | false => .ptr b' off
  | x => x
/-- pointers to box b, as pointers to what it holds -/
def thaw (b : Nat) (cs : List AV) : AV → AV
  | .fn f xs ys => .fn f (xs.map (thaw0 b cs)) (ys.map (thaw0 b cs))
  | x => thaw0 b cs x
theorem RV.thaw0 {M : Hp} {σ : Nat → Nat} {n b : Nat} {cs : List AV} (hc : Cells M (σ b) 0 cs) {x : AV} {v : Value} (h : RV M σ n x v) : RV M σ n (thaw0 b cs x) v := by
  unfold AM.thaw0
  split
  · rename_i b' off
    obtain ⟨rfl, _⟩ := h.inv_ptr
    split
    · rename_i hb
      have := Nat.eq_of_beq_eq_true hb
      subst this
      refine .ept _ _ _ ?_
      have := hc.drop off
      rwa [Nat.zero_add] at this
    · exact h
  · exact h
theorem RV.thaw {M : Hp} {σ : Nat → Nat} {n b : Nat} {cs : List AV} (hc : Cells M (σ b) 0 cs) {x : AV} {v : Value} (h : RV M σ n x v) : RV M σ n (thaw b cs x) v := by
  unfold AM.thaw
  split
  · rename_i f xs ys
    obtain ⟨us, vs, rfl, h1, h2, h3, h4⟩ := h.inv_fn
    refine .fn f _ _ us vs (by simp [h1]) (by simp [h2]) (fun j hj v hv => ?_) (fun j hj v hv => ?_)
    · simp only [List.length_map] at hj
      rw [List.getElem_map]; exact (h3 j hj v hv).thaw0 hc
    · simp only [List.length_map] at hj
      rw [List.getElem_map]; exact (h4 j hj v hv).thaw0 hc
  · exact h.thaw0 hc

section
variable {E : Entry} {G : Gh} {s : St} {a : Act} {w : World}
theorem RS.dead (h : RS E G s a w) {b : Nat} {cs : List AV} (hb : boxCells s.bs b = some cs) (hf : ∀ x ∈ cs, x.flat1 = true) :
    ∃ G' : Gh, RS E G' ⟨s.env, s.bs.set b .dead, s.lo⟩ a w ∧ G'.σ = G.σ ∧ Cells G'.M (G.σ b) 0 cs := by
  obtain ⟨vs, T, h1, h2⟩ := h.box b cs hb
  obtain ⟨hM, hmine⟩ := h.bmem b cs hb
  have hle : G.M.le (addCells G.M (G.σ b) 0 vs.toList) := addCells_le fun o _ => hM o
  have hat : ∀ p x, (⟨s.env, s.bs.set b .dead, s.lo⟩ : St).at p = some x → s.at p = some x ∧ ∀ j, p ≠ .bx b j := fun p x hp => by
    cases p with
    | sl t => exact ⟨hp, fun j e => by cases e⟩
    | bx c j =>
      simp only [St.at, boxCells_setDead] at hp ⊢
      by_cases e : c = b
      · rw [if_pos e] at hp; cases hp
      · rw [if_neg e] at hp
        exact ⟨hp, fun j' e' => by cases e'; exact e rfl⟩
  have hbc : ∀ c ds, boxCells (s.bs.set b .dead) c = some ds → boxCells s.bs c = some ds ∧ G.σ c ≠ G.σ b := fun c ds hc => by
    rw [boxCells_setDead] at hc
    by_cases e : c = b
    · rw [if_pos e] at hc; cases hc
    · rw [if_neg e] at hc
      exact ⟨hc, fun e2 => e (h.inj c b ds cs hc hb e2)⟩
  have hlen : (s.bs.set b .dead).length = s.bs.length := by simp
  refine ⟨{ G with M := addCells G.M (G.σ b) 0 vs.toList }, ⟨⟨h.fr.os, h.fr.tape, h.fr.output, h.fr.size, Hp.le_trans h.fr.le hle, h.fr.heap, fun B hB hn o => ?_⟩, fun c o v hv => ?_, h.nt, fun p x hp => ?_, fun c j x hp => h.one c j x (hat _ x hp).1, fun c ds hc => h.box c ds (hbc c ds hc).1, fun c ds hc => ?_, fun c c' ds ds' hc hc' e => h.inj c c' ds ds' (hbc c ds hc).1 (hbc c' ds' hc').1 e, fun p z l hp => ?_, h.clinj, fun p B hB c ds hc => h.clbox p B hB c ds (hbc c ds hc).1, h.cllt, h.lo, by rw [hlen]; exact h.len, h.sig, ?_⟩, rfl, fun j hj => ?_⟩
  · have hne : B ≠ G.σ b := fun e => by
      subst e
      rcases hmine with h3 | h3
      · exact hn h3
      · omega
    exact (addCells_ne hne o).trans (h.fr.mem B hB hn o)
  · rcases addCells_inv hv with ⟨rfl, j, rfl, hj⟩ | hv
    · simp only [Hp.of, World.cell?, h1]
      simpa using hj
    · exact h.ok c o v hv
  · rw [hlen]
    exact (h.val p x (hat p x hp).1).mono hle (Nat.le_refl _) (fun _ _ => rfl)
  · obtain ⟨h3, h4⟩ := hbc c ds hc
    obtain ⟨h5, h6⟩ := h.bmem c ds h3
    exact ⟨fun o => (addCells_ne h4 o).trans (h5 o), h6⟩
  · obtain ⟨ad, k, h3, h4, h5⟩ := h.own p z l (hat p _ hp).1
    refine ⟨ad, k, h3, h4, ?_⟩
    rcases h5 with h5 | ⟨B, hB, h6, h7⟩
    · exact .inl h5
    · exact .inr ⟨B, hB, h6, h7.lt, h7.cells, fun o ho => (addCells_ne (fun e => h.clbox p B hB b cs hb e.symm) o).trans (h7.free o ho), h7.mine⟩
  · refine h.sp.step hle (fun _ _ => rfl) (fun c x hc => ?_) (fun _ _ k _ => k) (fun _ _ _ _ p k => ⟨p, k⟩) (fun _ k => k)
    rw [boxLoop_setDead] at hc
    split at hc
    · cases hc
    · exact hc
  · obtain ⟨u, h3, h4, h5⟩ := h.bval hb j hj
    have hfl := hf _ (List.getElem_mem hj)
    have hd : (cs[j]).deown = cs[j] := by
      generalize cs[j] = y at *
      cases y <;> try rfl
      rename_i o l
      cases o <;> first | rfl | cases hfl
    rw [hd] at h5
    have hju : vs.toList[j]? = some u := by
      simp only [World.cell?, h1] at h3
      simpa using h3
    exact ⟨u, by have := addCells_at (M := G.M) (B := G.σ b) (off := 0) hju; exact this, h4, (h5.flat1 hfl).mono hle⟩

/-- slot t's pointers to box b are pointers to what stays as it is -/
theorem Weak.freeze (s : St) (t b : Nat) {cs : List AV} {x : AV} (ht : envGet s.env t = some x) (hb : boxCells s.bs b = some cs) (hf : cs.all AV.flat1 = true) (hx : x.deown = x) : Weak s ⟨envPut s.env t (thaw b cs x), s.bs.set b .dead, s.lo⟩ := fun E G a w hs => by
  obtain ⟨G', h1, h2, h3⟩ := hs.dead hb (by simpa using hf)
  have hat : (⟨s.env, s.bs.set b .dead, s.lo⟩ : St).at (.sl t) = some x := ht
  have hv := h1.val _ _ hat
  rw [hx] at hv
  rw [← h2] at h3
  exact ⟨G', h1.upd (q := .sl t) hat (hv.thaw h3)⟩
end
theorem RetN.freeze {s : St} {t : Nat} (b : Nat) {cs : List AV} {x : AV} {Q : AV → List Box → Prop} (h0 : envGet s.env t = some x) (hb : boxCells s.bs b = some cs) (hf : cs.all AV.flat1 = true) (hx : x.deown = x) (h : fv (thaw b cs x) fun x => Q x (s.bs.set b .dead)) : RetN s [.slot t] Q :=
  ⟨_, Weak.freeze s t b h0 hb hf hx, by
    have : (⟨envPut s.env t (thaw b cs x), s.bs.set b .dead, s.lo⟩ : St).get t = thaw b cs x := by simp [St.get, envGet_put]
    simp only [resK]
    rw [fv_eq] at h
    rw [this]; exact h⟩
theorem EndN.keep {s t : St} (ks : List Nat) (h : EndN (s.keep ks) t) : EndN s t := ⟨(Weak.keep s ks).trans h.out⟩
end Go.AM

namespace Go.AM
open Go.CK Go.RowKit

def clF (n : Nat) (cl : Pl → Option Nat) : Pl → Option Nat
  | .sl _ => none
  | .bx b j => if b < n then cl (.bx b j) else none
theorem clF_some {n : Nat} {cl : Pl → Option Nat} {p : Pl} {B : Nat} (h : clF n cl p = some B) : ∃ b j, p = .bx b j ∧ b < n ∧ cl (.bx b j) = some B := by
  cases p with
  | sl t => cases h
  | bx b j =>
    simp only [clF] at h
    split at h
    · exact ⟨b, j, rfl, by assumption, h⟩
    · cases h
theorem boxCells_app {bs cs : List Box} {b : Nat} : boxCells (bs ++ cs) b = if b < bs.length then boxCells bs b else boxCells cs (b - bs.length) := by
  simp only [boxCells]
  by_cases h : b < bs.length
  · rw [List.getElem?_append_left h, if_pos h]
  · rw [List.getElem?_append_right (by omega), if_neg h]
theorem boxLoop_app {bs cs : List Box} {b : Nat} : boxLoop (bs ++ cs) b = if b < bs.length then boxLoop bs b else boxLoop cs (b - bs.length) := by
  simp only [boxLoop]
  by_cases h : b < bs.length
  · rw [List.getElem?_append_left h, if_pos h]
  · rw [List.getElem?_append_right (by omega), if_neg h]
theorem boxCells_front {bs : List Box} (cs : List Box) {b : Nat} {ds : List AV} (h : boxCells bs b = some ds) : boxCells (bs ++ cs) b = some ds := by
  rw [boxCells_app, if_pos (boxCells_lt h)]; exact h
theorem boxLoop_front {bs : List Box} (cs : List Box) {b : Nat} {x : LB} (h : boxLoop bs b = some x) : boxLoop (bs ++ cs) b = some x := by
  rw [boxLoop_app, if_pos (boxLoop_lt h)]; exact h

section
variable {E : Entry} {G : Gh} {a : Act} {w : World}

/-- the boxes from bs.length on are out of sight -/
theorem RS.hide {bs cs : List Box} {lo : Nat} (h : RS E G ⟨[], bs ++ cs, lo⟩ a w) (hlt : boxesLt bs.length bs = true) (a' : Act) (hds : a'.defers = []) :
    RS (callE ⟨G.M, G.σ, clF bs.length G.cl⟩ bs w a'.tmps.size) ⟨G.M, G.σ, clF bs.length G.cl⟩ ⟨[], bs, bs.length⟩ a' w := by
  have hat : ∀ p x, (⟨[], bs, bs.length⟩ : St).at p = some x → ∃ b j ds, p = .bx b j ∧ b < bs.length ∧ boxCells bs b = some ds ∧ ds[j]? = some x ∧ (⟨[], bs ++ cs, lo⟩ : St).at (.bx b j) = some x := fun p x hp => by
    cases p with
    | sl t => simp [St.at, envGet] at hp
    | bx b j =>
      simp only [St.at] at hp
      cases hb : boxCells bs b with
      | none => rw [hb] at hp; cases hp
      | some ds =>
        rw [hb] at hp
        refine ⟨b, j, ds, rfl, boxCells_lt hb, hb, hp, ?_⟩
        simp only [St.at, boxCells_front cs hb]; exact hp
  refine ⟨Fr.refl _ _ _, h.ok, rfl, fun p x hp => ?_, fun b j x hp => ?_, fun b ds hb => h.box b ds (boxCells_front cs hb), fun b ds hb => ⟨(h.bmem b ds (boxCells_front cs hb)).1, .inl (.inl ⟨b, ds, hb, rfl⟩)⟩, fun b b' ds ds' hb hb' e => h.inj b b' ds ds' (boxCells_front cs hb) (boxCells_front cs hb') e, fun p z l hp => ?_, fun p q B hp hq => ?_, fun p B hB b ds hb => ?_, fun p B hB => ?_, rfl, Nat.le_refl _, fun _ _ => rfl, ?_⟩
  · obtain ⟨b, j, ds, rfl, _, hb, hj, hx⟩ := hat p x hp
    exact (h.val _ _ hx).lt (by rw [lt_deown]; exact boxesLt_get hlt hb hj)
  · obtain ⟨b', j', ds, e, _, _, _, hx⟩ := hat _ x hp
    cases e
    exact h.one _ _ _ hx
  · obtain ⟨b, j, ds, rfl, hbl, hb, hj, hx⟩ := hat p _ hp
    obtain ⟨ad, k, h1, h2, h3⟩ := h.own _ _ _ hx
    refine ⟨ad, k, h1, h2, ?_⟩
    rcases h3 with h3 | ⟨B, hB, h4, h5⟩
    · exact .inl h3
    · have hB' : clF bs.length G.cl (.bx b j) = some B := by simp only [clF, if_pos hbl]; exact hB
      exact .inr ⟨B, hB', h4, h5.lt, h5.cells, h5.free, .inl (.inr (.inl ⟨b, j, hB'⟩))⟩
  · obtain ⟨b, j, rfl, _, h1⟩ := clF_some hp
    obtain ⟨b', j', rfl, _, h2⟩ := clF_some hq
    exact h.clinj _ _ B h1 h2
  · obtain ⟨b', j', rfl, _, h1⟩ := clF_some hB
    exact h.clbox _ B h1 b ds (boxCells_front cs hb)
  · have hB0 := hB
    obtain ⟨b', j', rfl, _, h1⟩ := clF_some hB
    exact ⟨(h.cllt _ B h1).1, .inl (.inr (.inl ⟨b', j', hB0⟩))⟩
  · rw [hds]
    refine ⟨fun B o hs => ?_, fun b x hb => h.sp.base b x (boxLoop_front cs hb), fun b b' x x' hb hb' e => h.sp.inj b b' x x' (boxLoop_front cs hb) (boxLoop_front cs hb') e, [], rfl, .nil⟩
    rcases hs with ⟨b, x, hb, e, ho⟩ | ⟨hm, _⟩
    · obtain ⟨h1, h2, _⟩ := h.sp.ob B o (.inl ⟨b, x, boxLoop_front cs hb, e, ho⟩)
      refine ⟨h1, fun p hp => ?_, .inl (.inr (.inr ⟨b, x, hb, e⟩))⟩
      obtain ⟨b', j', rfl, _, h3⟩ := clF_some hp
      exact h2 _ h3
    · cases hm

/-- the boxes that a call did not see are as they were -/
theorem RS.unhide {bs cs own : List Box} {lo : Nat} (h : RS E G ⟨[], bs ++ cs, lo⟩ a w) (hol : own.length = bs.length) {G' : Gh} {r : AV} {v : Value} {w' : World}
    (h' : RS (callE ⟨G.M, G.σ, clF bs.length G.cl⟩ bs w 1) G' ⟨[(0, r)], own, bs.length⟩ ⟨#[v], []⟩ w') :
    ∃ G'', RS (callE G (bs ++ cs) w 1) G'' ⟨[(0, r)], own ++ cs, (bs ++ cs).length⟩ ⟨#[v], []⟩ w' := by
  have hσ : ∀ b, b < bs.length → G'.σ b = G.σ b := h'.sig
  have hfr : Fr (FPof ⟨G.M, G.σ, clF bs.length G.cl⟩ bs) G.M w G'.M w' := h'.fr
  have hFP : ∀ B, FPof ⟨G.M, G.σ, clF bs.length G.cl⟩ bs B → FPof G (bs ++ cs) B := fun B hB => by
    rcases hB with ⟨b, ds, hb, e⟩ | ⟨b, j, hb⟩ | ⟨b, x, hb, e⟩
    · exact .inl ⟨b, ds, boxCells_front cs hb, e⟩
    · obtain ⟨b', j', e, _, h1⟩ := clF_some (n := bs.length) (cl := G.cl) (p := .bx b j) hb
      exact .inr (.inl ⟨b', j', h1⟩)
    · exact .inr (.inr ⟨b, x, boxLoop_front cs hb, e⟩)
  have hmine : ∀ B, (FPof ⟨G.M, G.σ, clF bs.length G.cl⟩ bs B ∨ w.heap.size ≤ B) → (FPof G (bs ++ cs) B ∨ w.heap.size ≤ B) := fun B hB => hB.imp (hFP B) id
  -- what is behind is apart
  have noC : ∀ b ds, ¬ b < bs.length → boxCells (bs ++ cs) b = some ds → ¬ FPof ⟨G.M, G.σ, clF bs.length G.cl⟩ bs (G.σ b) := fun b ds hn hb hF => by
    rcases hF with ⟨c, es, hc, e⟩ | ⟨c, j, hc⟩ | ⟨c, x, hc, e⟩
    · have := h.inj c b es ds (boxCells_front cs hc) hb e
      have := boxCells_lt hc
      omega
    · obtain ⟨b', j', _, _, h1⟩ := clF_some (n := bs.length) (cl := G.cl) (p := .bx c j) hc
      exact h.clbox _ _ h1 b ds hb rfl
    · have h1 := (h.sp.ob _ _ (.inl ⟨c, x, boxLoop_front cs hc, e, rfl⟩)).1
      obtain ⟨vs, T, h2, _⟩ := h.box b ds hb
      have h2 : w.heap[G.σ b]? = some (.cells vs T (0, 0)) := h2
      exact x.obj_nc (h2.symm.trans h1)
  have noCl : ∀ b j B, ¬ b < bs.length → G.cl (.bx b j) = some B → ¬ FPof ⟨G.M, G.σ, clF bs.length G.cl⟩ bs B := fun b j B hn hb hF => by
    rcases hF with ⟨c, es, hc, e⟩ | ⟨c, j', hc⟩ | ⟨c, x, hc, e⟩
    · exact h.clbox _ B hb c es (boxCells_front cs hc) e
    · obtain ⟨b', j'', e, hlt, h1⟩ := clF_some (n := bs.length) (cl := G.cl) (p := .bx c j') hc
      have := h.clinj _ _ B hb h1
      cases this
      exact hn hlt
    · exact (h.sp.ob B _ (.inl ⟨c, x, boxLoop_front cs hc, e, rfl⟩)).2.1 _ hb
  have noL : ∀ b x, ¬ b < bs.length → boxLoop (bs ++ cs) b = some x → ¬ FPof ⟨G.M, G.σ, clF bs.length G.cl⟩ bs (G.σ b) := fun b x hn hb hF => by
    obtain ⟨h1, h2, _⟩ := h.sp.ob _ _ (.inl ⟨b, x, hb, rfl, rfl⟩)
    rcases hF with ⟨c, es, hc, e⟩ | ⟨c, j', hc⟩ | ⟨c, y, hc, e⟩
    · obtain ⟨vs, T, h3, _⟩ := h.box c es (boxCells_front cs hc)
      have h3 : w.heap[G.σ c]? = some (.cells vs T (0, 0)) := h3
      rw [show G.σ c = G.σ b from e] at h3
      exact x.obj_nc (h3.symm.trans h1)
    · obtain ⟨b', j'', _, _, h3⟩ := clF_some (n := bs.length) (cl := G.cl) (p := .bx c j') hc
      exact h2 _ h3
    · have := h.sp.inj c b y x (boxLoop_front cs hc) hb e
      have := boxLoop_lt hc
      omega
  have hlen : (own ++ cs).length = (bs ++ cs).length := by simp [hol]
  have hbk : ∀ b ds, ¬ b < bs.length → boxCells (own ++ cs) b = some ds → boxCells (bs ++ cs) b = some ds := fun b ds hn hb => by
    rw [boxCells_app, if_neg (by omega)] at hb
    rw [boxCells_app, if_neg hn, ← hol]; exact hb
  have hfk : ∀ b ds, b < bs.length → boxCells (own ++ cs) b = some ds → boxCells own b = some ds := fun b ds hn hb => by
    rw [boxCells_app, if_pos (by omega)] at hb; exact hb
  have hlk : ∀ b x, ¬ b < bs.length → boxLoop (own ++ cs) b = some x → boxLoop (bs ++ cs) b = some x := fun b x hn hb => by
    rw [boxLoop_app, if_neg (by omega)] at hb
    rw [boxLoop_app, if_neg hn, ← hol]; exact hb
  have hlf : ∀ b x, b < bs.length → boxLoop (own ++ cs) b = some x → boxLoop own b = some x := fun b x hn hb => by
    rw [boxLoop_app, if_pos (by omega)] at hb; exact hb
  have hnew : ∀ q B, G'.cl q = some B → FPof ⟨G.M, G.σ, clF bs.length G.cl⟩ bs B ∨ w.heap.size ≤ B := fun q B hB => (h'.cllt q B hB).2
  have hcl : ∀ p B, (fun p : Pl => match p with | .sl t => G'.cl (.sl t) | .bx b j => if b < bs.length then G'.cl (.bx b j) else G.cl (.bx b j)) p = some B →
      (G'.cl p = some B ∧ ∀ b j, p = .bx b j → b < bs.length) ∨ ∃ b j, p = .bx b j ∧ ¬ b < bs.length ∧ G.cl (.bx b j) = some B := fun p B hp => by
    cases p with
    | sl t => exact .inl ⟨hp, fun b j e => by cases e⟩
    | bx b j =>
      simp only at hp
      split at hp
      · rename_i hb; exact .inl ⟨hp, fun b' j' e => by cases e; exact hb⟩
      · rename_i hb; exact .inr ⟨b, j, rfl, hb, hp⟩
  have hat : ∀ p x, (⟨[(0, r)], own ++ cs, (bs ++ cs).length⟩ : St).at p = some x → ((⟨[(0, r)], own, bs.length⟩ : St).at p = some x ∧ (∀ b j, p = .bx b j → b < bs.length) ∧ valAt G.σ ⟨#[v], []⟩ w' p = valAt G'.σ ⟨#[v], []⟩ w' p) ∨
      (∃ b j, p = .bx b j ∧ ¬ b < bs.length ∧ (⟨[], bs ++ cs, lo⟩ : St).at (.bx b j) = some x ∧ valAt G.σ ⟨#[v], []⟩ w' (.bx b j) = valAt G.σ a w (.bx b j)) := fun p x hp => by
    cases p with
    | sl t => exact .inl ⟨hp, (fun b j e => by cases e), rfl⟩
    | bx b j =>
      simp only [St.at] at hp
      cases hb : boxCells (own ++ cs) b with
      | none => rw [hb] at hp; cases hp
      | some ds =>
        rw [hb] at hp
        by_cases hn : b < bs.length
        · refine .inl ⟨by simp only [St.at, hfk b ds hn hb]; exact hp, (fun b' j' e => by cases e; exact hn), ?_⟩
          simp only [valAt, hσ b hn]
        · have hb' := hbk b ds hn hb
          refine .inr ⟨b, j, rfl, hn, by simp only [St.at, hb']; exact hp, ?_⟩
          simp only [valAt]
          rw [cell_heap (hfr.heap _ (h.blt hb') (noC b ds hn hb'))]
  refine ⟨⟨G'.M, G.σ, fun p => match p with | .sl t => G'.cl (.sl t) | .bx b j => if b < bs.length then G'.cl (.bx b j) else G.cl (.bx b j)⟩,
    ⟨hfr.os, hfr.tape, hfr.output, hfr.size, hfr.le, fun B hB hn => hfr.heap B hB (fun k => hn (hFP B k)), fun B hB hn => hfr.mem B hB (fun k => hn (hFP B k))⟩, h'.ok, rfl, fun p x hp => ?_, fun b j x hp => ?_, fun b ds hb => ?_, fun b ds hb => ?_, fun b b' ds ds' hb hb' e => ?_, fun p z l hp => ?_, fun p q B hp hq => ?_, fun p B hB b ds hb => ?_, fun p B hB => ?_, rfl, by show (bs ++ cs).length ≤ (own ++ cs).length; omega, fun _ _ => rfl, ?_⟩
  · rcases hat p x hp with ⟨h1, _, h2⟩ | ⟨b, j, rfl, _, h1, h2⟩
    · rw [h2]
      exact (h'.val p x h1).mono (Hp.le_refl _) (by simp) (fun b hb => (hσ b (by rw [← hol]; exact hb)).symm)
    · rw [h2, show (⟨[(0, r)], own ++ cs, (bs ++ cs).length⟩ : St).bs.length = (bs ++ cs).length from hlen]
      exact (h.val _ _ h1).mono hfr.le (Nat.le_refl _) (fun _ _ => rfl)
  · rcases hat _ x hp with ⟨h1, _, h2⟩ | ⟨b', j', e, _, h1, h2⟩
    · rw [h2]; exact h'.one _ _ _ h1
    · cases e
      rw [h2]; exact h.one _ _ _ h1
  · by_cases hn : b < bs.length
    · have := h'.box b ds (hfk b ds hn hb)
      simp only [hσ b hn] at this
      exact this
    · have hb' := hbk b ds hn hb
      obtain ⟨vs, T, h1, h2⟩ := h.box b ds hb'
      exact ⟨vs, T, (hfr.heap _ (h.blt hb') (noC b ds hn hb')).trans h1, h2⟩
  · by_cases hn : b < bs.length
    · have := h'.bmem b ds (hfk b ds hn hb)
      simp only [hσ b hn] at this
      exact ⟨this.1, hmine _ this.2⟩
    · have hb' := hbk b ds hn hb
      exact ⟨fun o => (hfr.mem _ (h.blt hb') (noC b ds hn hb') o).trans ((h.bmem b ds hb').1 o), .inl (.inl ⟨b, ds, hb', rfl⟩)⟩
  · have key : ∀ c c' es es', c < bs.length → ¬ c' < bs.length → boxCells (own ++ cs) c = some es → boxCells (own ++ cs) c' = some es' → G.σ c = G.σ c' → False := fun c c' es es' h1 h2 h3 h4 h5 => by
      have h6 := (h'.bmem c es (hfk c es h1 h3)).2
      rw [hσ c h1, h5] at h6
      have h7 := hbk c' es' h2 h4
      rcases h6 with h6 | h6
      · exact noC c' es' h2 h7 h6
      · have : w.heap.size ≤ G.σ c' := h6
        have h8 : G.σ c' < w.heap.size := h.blt h7
        omega
    by_cases hn : b < bs.length
    · by_cases hn' : b' < bs.length
      · exact h'.inj b b' ds ds' (hfk b ds hn hb) (hfk b' ds' hn' hb') (by rw [hσ b hn, hσ b' hn']; exact e)
      · exact (key b b' ds ds' hn hn' hb hb' e).elim
    · by_cases hn' : b' < bs.length
      · exact (key b' b ds' ds hn' hn hb' hb e.symm).elim
      · exact h.inj b b' ds ds' (hbk b ds hn hb) (hbk b' ds' hn' hb') e
  · rcases hat p _ hp with ⟨h1, hp2, h2⟩ | ⟨b, j, rfl, hn, h1, h2⟩
    · obtain ⟨ad, k, h3, h4, h5⟩ := h'.own p z l h1
      refine ⟨ad, k, h2.trans h3, h4, ?_⟩
      rcases h5 with h5 | ⟨B, hB, h6, h7⟩
      · exact .inl h5
      · refine .inr ⟨B, ?_, h6, h7.lt, h7.cells, h7.free, hmine _ h7.mine⟩
        cases p with
        | sl t => exact hB
        | bx b j => simp only [if_pos (hp2 b j rfl)]; exact hB
    · obtain ⟨ad, k, h3, h4, h5⟩ := h.own _ _ _ h1
      refine ⟨ad, k, h2.trans h3, h4, ?_⟩
      rcases h5 with h5 | ⟨B, hB, h6, h7⟩
      · exact .inl h5
      · have hlt := (h.cllt _ B hB).1
        have hnF := noCl b j B hn hB
        obtain ⟨vs, T, h8, h9⟩ := h7.cells
        exact .inr ⟨B, by simp only [if_neg hn]; exact hB, h6, h7.lt, ⟨vs, T, (hfr.heap B hlt hnF).trans h8, h9⟩, fun o ho => (hfr.mem B hlt hnF o).trans (h7.free o ho), .inl (.inr (.inl ⟨b, j, hB⟩))⟩
  · have key : ∀ p' b j, G'.cl p' = some B → ¬ b < bs.length → G.cl (.bx b j) = some B → False := fun p' b j h1 h2 h3 => by
      rcases hnew p' B h1 with h4 | h4
      · exact noCl b j B h2 h3 h4
      · have h5 : B < w.heap.size := (h.cllt _ B h3).1
        omega
    rcases hcl p B hp with ⟨h1, _⟩ | ⟨b, j, rfl, hn, h1⟩
    · rcases hcl q B hq with ⟨h2, _⟩ | ⟨b', j', rfl, hn', h2⟩
      · exact h'.clinj _ _ B h1 h2
      · exact (key _ _ _ h1 hn' h2).elim
    · rcases hcl q B hq with ⟨h2, _⟩ | ⟨b', j', rfl, hn', h2⟩
      · exact (key _ _ _ h2 hn h1).elim
      · exact h.clinj _ _ B h1 h2
  · rcases hcl p B hB with ⟨h1, _⟩ | ⟨b', j', rfl, hn', h1⟩
    · by_cases hn : b < bs.length
      · have := h'.clbox p B h1 b ds (hfk b ds hn hb)
        rwa [hσ b hn] at this
      · intro e
        have e' : G.σ b = B := e
        have hb' := hbk b ds hn hb
        rcases hnew p B h1 with h4 | h4
        · exact noC b ds hn hb' (e' ▸ h4)
        · have h5 : G.σ b < w.heap.size := h.blt hb'
          omega
    · by_cases hn : b < bs.length
      · intro e
        have e' : G.σ b = B := e
        have h6 := (h'.bmem b ds (hfk b ds hn hb)).2
        rw [hσ b hn, e'] at h6
        rcases h6 with h6 | h6
        · exact noCl b' j' B hn' h1 h6
        · have h5 : B < w.heap.size := (h.cllt _ B h1).1
          have : w.heap.size ≤ B := h6
          omega
      · exact h.clbox _ B h1 b ds (hbk b ds hn hb)
  · rcases hcl p B hB with ⟨h1, _⟩ | ⟨b', j', rfl, hn', h1⟩
    · exact ⟨(h'.cllt p B h1).1, hmine B (hnew p B h1)⟩
    · exact ⟨Nat.lt_of_lt_of_le (h.cllt _ B h1).1 hfr.size, .inl (.inr (.inl ⟨b', j', h1⟩))⟩
  · refine ⟨fun B o hs => ?_, fun b x hb => ?_, fun b b' x x' hb hb' e => ?_, [], rfl, .nil⟩
    · rcases hs with ⟨b, x, hb, e, ho⟩ | ⟨hm, _⟩
      · have e' : G.σ b = B := e
        by_cases hn : b < bs.length
        · obtain ⟨h1, h2, h3⟩ := h'.sp.ob B o (.inl ⟨b, x, hlf b x hn hb, (hσ b hn).trans e', ho⟩)
          refine ⟨h1, fun p hp => ?_, hmine B h3⟩
          rcases hcl p B hp with ⟨h4, _⟩ | ⟨c, j, rfl, hn', h4⟩
          · exact h2 _ h4
          · rcases h3 with h5 | h5
            · exact noCl c j B hn' h4 h5
            · have h6 : B < w.heap.size := (h.cllt _ B h4).1
              have : w.heap.size ≤ B := h5
              omega
        · have hb' := hlk b x hn hb
          obtain ⟨h1, h2, _⟩ := h.sp.ob B o (.inl ⟨b, x, hb', e', ho⟩)
          have hlt : B < w.heap.size := (Array.getElem?_eq_some_iff.1 h1).1
          have hnF := noL b x hn hb'
          rw [e'] at hnF
          refine ⟨(hfr.heap B hlt hnF).trans h1, fun p hp => ?_, .inl (.inr (.inr ⟨b, x, hb', e'⟩))⟩
          rcases hcl p B hp with ⟨h4, _⟩ | ⟨c, j, rfl, hn', h4⟩
          · rcases hnew p B h4 with h5 | h5
            · exact hnF h5
            · omega
          · exact h2 _ h4
      · cases hm
    · by_cases hn : b < bs.length
      · obtain ⟨h1, h2, h3⟩ := h'.sp.base b x (hlf b x hn hb)
        exact ⟨h1, h2, fun c hc => (hσ c (by omega)).symm.trans (h3 c hc)⟩
      · obtain ⟨h1, h2, h3⟩ := h.sp.base b x (hlk b x hn hb)
        exact ⟨Hp.le_trans h1 hfr.le, h2, h3⟩
    · have e' : G.σ b = G.σ b' := e
      have key : ∀ c c' y y', c < bs.length → ¬ c' < bs.length → boxLoop (own ++ cs) c = some y → boxLoop (own ++ cs) c' = some y' → G.σ c = G.σ c' → False := fun c c' y y' h1 h2 h3 h4 h5 => by
        have h6 := (h'.sp.ob _ _ (.inl ⟨c, y, hlf c y h1 h3, rfl, rfl⟩)).2.2
        rw [hσ c h1, h5] at h6
        have h7 := hlk c' y' h2 h4
        rcases h6 with h6 | h6
        · exact noL c' y' h2 h7 h6
        · have h8 := (Array.getElem?_eq_some_iff.1 (h.sp.ob _ _ (.inl ⟨c', y', h7, rfl, rfl⟩)).1).1
          have : w.heap.size ≤ G.σ c' := h6
          have h8 : G.σ c' < w.heap.size := h8
          omega
      by_cases hn : b < bs.length
      · by_cases hn' : b' < bs.length
        · exact h'.sp.inj b b' x x' (hlf b x hn hb) (hlf b' x' hn' hb') (by rw [hσ b hn, hσ b' hn']; exact e')
        · exact (key b b' x x' hn hn' hb hb' e').elim
      · by_cases hn' : b' < bs.length
        · exact (key b' b x' x hn' hn hb' hb e'.symm).elim
        · exact h.sp.inj b b' x x' (hlk b x hn hb) (hlk b' x' hn' hb') e'
end

/-- A round does not see the boxes that lie behind: they are as they were. -/
theorem SemY.frame {P : Program} {b : Nat} {y : List AV} {bs : List Box} {Q : AV → List Box → Prop} (h : SemY P b y bs Q) (hlt : boxesLt bs.length bs = true) (hy : ∀ v ∈ y, v.lt bs.length = true) (hQ : ∀ r bs', Q r bs' → r.lt bs.length = true ∧ boxesLt bs.length (bs'.take bs.length) = true) (cs : List Box) :
    SemY P b y (bs ++ cs) fun r bs' => ∃ own, Q r own ∧ bs' = own.take bs.length ++ cs := by
  intro E G a0 w args lo hpre hal hav
  have h0 := hpre.hide hlt ⟨#[], []⟩ rfl
  obtain ⟨f, tmps, assign, body, hyr, hround⟩ := h _ _ _ w args _ h0 hal (fun j hj v hv => (hav j hj v hv).lt (hy _ (List.getElem_mem hj)))
  refine ⟨f, tmps, assign, body, hyr, fun rd n => (hround rd n).mono ?_⟩
  rintro e w' ⟨v, r, bs', G', rfl, hq, h'⟩
  obtain ⟨hr, hb'⟩ := hQ r bs' hq
  have hle : bs.length ≤ bs'.length := h'.len
  obtain ⟨G2, h2⟩ := Weak.cut ⟨[(0, r)], bs', bs.length⟩ bs.length (Nat.le_refl _) hle (by simp only [envLt, hr]; rfl) hb' _ _ _ _ h'
  obtain ⟨G3, h3⟩ := hpre.unhide (by simp; omega) h2
  exact ⟨v, r, _, G3, rfl, ⟨bs', hq, rfl⟩, h3⟩
/-- The same of a call. -/
theorem Sem.frame {P : Program} {f : FuncId} {y : List AV} {bs : List Box} {Q : AV → List Box → Prop} (h : Sem P f y bs Q) (hlt : boxesLt bs.length bs = true) (hy : ∀ v ∈ y, v.lt bs.length = true) (hQ : ∀ r bs', Q r bs' → r.lt bs.length = true ∧ boxesLt bs.length (bs'.take bs.length) = true) (cs : List Box) :
    Sem P f y (bs ++ cs) fun r bs' => ∃ own, Q r own ∧ bs' = own.take bs.length ++ cs := by
  intro E G a0 w args lo hpre hal hav
  have h0 := hpre.hide hlt ⟨#[], []⟩ rfl
  refine (h _ _ _ w args _ h0 hal (fun j hj v hv => (hav j hj v hv).lt (hy _ (List.getElem_mem hj)))).mono ?_
  rintro e w' ⟨v, r, bs', G', rfl, hq, h'⟩
  obtain ⟨hr, hb'⟩ := hQ r bs' hq
  have hle : bs.length ≤ bs'.length := h'.len
  obtain ⟨G2, h2⟩ := Weak.cut ⟨[(0, r)], bs', bs.length⟩ bs.length (Nat.le_refl _) hle (by simp only [envLt, hr]; rfl) hb' _ _ _ _ h'
  obtain ⟨G3, h3⟩ := hpre.unhide (by simp; omega) h2
  exact ⟨v, r, _, G3, rfl, ⟨bs', hq, rfl⟩, h3⟩
end Go.AM

namespace Go.AM
open Go.CK Go.RowKit

/-- Function gf with the values lb bound is an iterator: it hands on the values of xs, in their order, till it is told to stop. It may have boxes of its own (cs) behind the others while it does so. -/
def IterF (P : Program) (gf : FuncId) (lb : List AV) (xs : List (List AV)) : Prop :=
  ∀ (b : Nat) (bs : List Box) (J : List (List AV) → List Box → Prop) (Jx : List Box → Prop), b < bs.length → (∀ pre bs', J pre bs' → bs'.length = bs.length ∧ boxesLt bs.length bs' = true) → (∀ bs', Jx bs' → bs'.length = bs.length ∧ boxesLt bs.length bs' = true) →
    (∀ pre y rest bs' cs, pre ++ y :: rest = xs → J pre bs' → SemY P b y (bs' ++ cs) fun r bs2 => ∃ own, bs2 = own ++ cs ∧ ((r = .bool true ∧ J (pre ++ [y]) own) ∨ (r = .bool false ∧ Jx own))) → J [] bs →
    Sem P gf (.yl b :: lb) bs fun _ bs' => J xs bs' ∨ Jx bs'

theorem lt0_le {m n : Nat} (hmn : m ≤ n) {x : AV} (h : x.lt0 m = true) : x.lt0 n = true := by
  cases x <;> first | exact h | (simp only [AV.lt0, decide_eq_true_eq] at h ⊢; omega)
theorem lt1_le {m n : Nat} (hmn : m ≤ n) {x : AV} (h : x.lt1 m = true) : x.lt1 n = true := by
  cases x with
  | fn f xs ys =>
    simp only [AV.lt1, Bool.and_eq_true, List.all_eq_true] at h ⊢
    exact ⟨fun y hy => lt0_le hmn (h.1 y hy), fun y hy => lt0_le hmn (h.2 y hy)⟩
  | _ => simp only [AV.lt1] at h ⊢; exact lt0_le hmn h
theorem lt2_le {m n : Nat} (hmn : m ≤ n) {x : AV} (h : x.lt2 m = true) : x.lt2 n = true := by
  cases x with
  | agg cs => simp only [AV.lt2, List.all_eq_true] at h ⊢; exact fun y hy => lt1_le hmn (h y hy)
  | _ => simp only [AV.lt2] at h ⊢; exact lt1_le hmn h
theorem lt_le {m n : Nat} (hmn : m ≤ n) {x : AV} (h : x.lt m = true) : x.lt n = true := by
  cases x with
  | agg cs => simp only [AV.lt, List.all_eq_true] at h ⊢; exact fun y hy => lt1_le hmn (h y hy)
  | tup cs => simp only [AV.lt, List.all_eq_true] at h ⊢; exact fun y hy => lt2_le hmn (h y hy)
  | ept cs => rfl
  | sl o l => rfl
  | _ => simp only [AV.lt] at h ⊢; exact lt1_le hmn h
theorem boxesLt_le {m n : Nat} (hmn : m ≤ n) : ∀ {bs : List Box}, boxesLt m bs = true → boxesLt n bs = true
  | [], _ => rfl
  | .cells cs :: r, h => by
    simp only [boxesLt, Bool.and_eq_true, List.all_eq_true] at h ⊢
    exact ⟨fun x hx => lt_le hmn (h.1 x hx), boxesLt_le hmn h.2⟩
  | .dead :: r, h => by simp only [boxesLt] at h ⊢; exact boxesLt_le hmn h
  | .loop x :: r, h => by simp only [boxesLt] at h ⊢; exact boxesLt_le hmn h
  | .mp x :: r, h => by simp only [boxesLt] at h ⊢; exact boxesLt_le hmn h
  | .row ds :: r, h => by
    simp only [boxesLt, Bool.and_eq_true, List.all_eq_true] at h ⊢
    exact ⟨fun x hx => lt_le hmn (h.1 x hx), boxesLt_le hmn h.2⟩
theorem boxesLt_app {n : Nat} : ∀ {bs cs : List Box}, boxesLt n bs = true → boxesLt n cs = true → boxesLt n (bs ++ cs) = true
  | [], _, _, h => h
  | .cells ds :: r, cs, h, k => by
    simp only [boxesLt, Bool.and_eq_true, List.cons_append] at h ⊢
    exact ⟨h.1, boxesLt_app h.2 k⟩
  | .dead :: r, cs, h, k => by simp only [boxesLt, List.cons_append] at h ⊢; exact boxesLt_app h k
  | .loop x :: r, cs, h, k => by simp only [boxesLt, List.cons_append] at h ⊢; exact boxesLt_app h k
  | .mp x :: r, cs, h, k => by simp only [boxesLt, List.cons_append] at h ⊢; exact boxesLt_app h k
  | .row ds :: r, cs, h, k => by
    simp only [boxesLt, Bool.and_eq_true, List.cons_append] at h ⊢
    exact ⟨h.1, boxesLt_app h.2 k⟩
theorem boxesLt_snoc {own : List Box} (h : boxesLt own.length own = true) (x : LB) : boxesLt (own.length + 1) (own ++ [.loop x]) = true := boxesLt_app (boxesLt_le (Nat.le_succ _) h) rfl

theorem IterF.use {P : Program} {gf : FuncId} {lb : List AV} {xs : List (List AV)} (hi : IterF P gf lb xs) (b : Nat) (bs : List Box) (J : List (List AV) → List Box → Prop) (Jx : List Box → Prop) (hb : b < bs.length)
    (hJ : ∀ pre bs', J pre bs' → bs'.length = bs.length ∧ boxesLt bs.length bs' = true) (hJx : ∀ bs', Jx bs' → bs'.length = bs.length ∧ boxesLt bs.length bs' = true) (hy : ∀ y ∈ xs, ∀ v ∈ y, v.lt bs.length = true)
    (hr : ∀ pre y rest bs, pre ++ y :: rest = xs → J pre bs → SemY P b y bs fun r bs' => (r = .bool true ∧ J (pre ++ [y]) bs') ∨ (r = .bool false ∧ Jx bs')) (h0 : J [] bs) :
    Sem P gf (.yl b :: lb) bs fun _ bs' => J xs bs' ∨ Jx bs' := by
  refine hi b bs J Jx hb hJ hJx (fun pre y rest bs' cs hxs hj => ?_) h0
  obtain ⟨hl, hlt⟩ := hJ pre bs' hj
  have := (hr pre y rest bs' hxs hj).frame (by rw [hl]; exact hlt) (fun v hv => by rw [hl]; exact hy y (by rw [← hxs]; simp) v hv) (fun r bs2 hq => by
    rcases hq with ⟨rfl, hq⟩ | ⟨rfl, hq⟩
    · obtain ⟨h1, h2⟩ := hJ _ _ hq
      exact ⟨rfl, by rw [hl, ← h1, List.take_length]; rw [h1]; exact h2⟩
    · obtain ⟨h1, h2⟩ := hJx _ hq
      exact ⟨rfl, by rw [hl, ← h1, List.take_length]; rw [h1]; exact h2⟩) cs
  intro E G a0 w args lo h1 h2 h3
  obtain ⟨f, tmps, assign, body, h4, h5⟩ := this E G a0 w args lo h1 h2 h3
  refine ⟨f, tmps, assign, body, h4, fun rd n => (h5 rd n).mono ?_⟩
  rintro e w' ⟨v, r, bs2, G', rfl, ⟨own, hq, rfl⟩, h6⟩
  refine ⟨v, r, _, G', rfl, ⟨own, ?_, ?_⟩, h6⟩
  · have : own.length = bs'.length := by
      rcases hq with ⟨_, hq⟩ | ⟨_, hq⟩
      · rw [hl]; exact (hJ _ _ hq).1
      · rw [hl]; exact (hJx _ hq).1
    rw [← this, List.take_length]
  · exact hq

theorem EndN.eqS {s t : St} (h1 : s.env = t.env) (h2 : s.bs = t.bs) (h3 : s.lo = t.lo) : EndN s t := by
  obtain ⟨a, b, c⟩ := s
  obtain ⟨a', b', c'⟩ := t
  simp only at h1 h2 h3
  subst h1 h2 h3
  exact ⟨Weak.refl _⟩
end Go.AM

