/-
  Texts of this claim joined (wip/gen/bundle.py), those declarations only that are needed: AmF AmG AmH AmJ AmK. By an AI agent.
-/
import Derived.Test.YtahooabjmaolhaaBan
set_option linter.unusedSimpArgs false
set_option linter.unusedVariables false
namespace Go.AM
open Go.CK Go.RowKit
def lits : List Nat := [0, 1, 2, 3, 4, 5, 6, 7, 8, 9, 10, 11, 12, 13, 14, 15, 16, 17, 18, 19, 20, 21, 22, 23, 24, 25, 26, 27, 28, 29, 30, 31, 32, 33, 34, 35, 36, 37, 38, 39, 40]
def natF (n : Nat) (K : Nat -> Prop) : Prop :=
 match lits[n]? with
 | some m => K m
 | none => K n
theorem natF_eq (n : Nat) (K : Nat -> Prop) : natF n K = K n := by
 unfold natF; split
 ·rename_i m h
  have : m = n := by
   have hlt : n < lits.length := by
    rcases Nat.lt_or_ge n lits.length with h1 | h1
    ·exact h1
    ·rw [List.getElem?_eq_none h1] at h; cases h
   have hall : ∀ k, (hk : k < lits.length) -> lits[k] = k := by decide
   rw [List.getElem?_eq_getElem hlt] at h; cases h; exact hall n hlt
  rw [this]
 ·rfl
def f1 (x : AV) (K : AV -> Prop) : Prop :=
 match x with
 | .top => K .top
 | .bool b => K (.bool b)
 | .int k n => K (.int k n)
 | .str s => K (.str s)
 | .sl o l => match o with
  | .no => K (.sl .no l)
  | .full => K (.sl .full l)
  | .own z => K (.sl (.own z) l)
 | .agg cs => K (.agg cs)
 | .tup vs => K (.tup vs)
 | .ptr b off => natF b fun b => natF off fun off => K (.ptr b off)
 | .nptr => K .nptr
 | .ept cs => K (.ept cs)
 | .fn f xs ys => K (.fn f xs ys)
 | .yl b => K (.yl b)
 | .bsl b m k => natF b fun b => K (.bsl b m k)
 | .elp b i z off => natF b fun b => K (.elp b i z off)
 | .mpt b => natF b fun b => K (.mpt b)
 | .nfn => K .nfn
 | .nmp => K .nmp
 | .nifc => K .nifc
theorem f1_eq (x : AV) (K : AV -> Prop) : f1 x K = K x := by
 cases x <;> first | (simp only [f1, natF_eq]; done) | skip
 rename_i o l; cases o <;> rfl
def fs (l : List AV) (K : List AV -> Prop) : Prop :=
 match l with
 | [] => K []
 | x :: xs => f1 x fun x => fs xs fun xs => K (x :: xs)
theorem fs_eq : ∀ (l : List AV) (K : List AV -> Prop), fs l K = K l
 | [], _ => rfl
 | x :: xs, K => by rw [fs, f1_eq, fs_eq xs]
def fv (x : AV) (K : AV -> Prop) : Prop :=
 match x with
 | .agg cs => fs cs fun cs => K (.agg cs)
 | .tup cs => fs cs fun cs => K (.tup cs)
 | .ept cs => fs cs fun cs => K (.ept cs)
 | .fn f xs ys => fs xs fun xs => fs ys fun ys => K (.fn f xs ys)
 | x => f1 x K
theorem fv_eq (x : AV) (K : AV -> Prop) : fv x K = K x := by
 cases x <;> simp only [fv, fs_eq, f1_eq]
def fvs (l : List AV) (K : List AV -> Prop) : Prop :=
 match l with
 | [] => K []
 | x :: xs => fv x fun x => fvs xs fun xs => K (x :: xs)
theorem fvs_eq : ∀ (l : List AV) (K : List AV -> Prop), fvs l K = K l
 | [], _ => rfl
 | x :: xs, K => by rw [fvs, fv_eq, fvs_eq xs]
def fvq (x : AV) (K : AV -> Prop) : Prop :=
 match x with
 | .ptr b off => K (.ptr b off)
 | .bsl b m k => K (.bsl b m k)
 | .elp b i z off => K (.elp b i z off)
 | .mpt b => K (.mpt b)
 | .fn f xs ys => K (.fn f xs ys)
 | x => fv x K
theorem fvq_eq (x : AV) (K : AV -> Prop) : fvq x K = K x := by
 cases x <;> simp only [fvq, fv_eq]
def fvqs (l : List AV) (K : List AV -> Prop) : Prop :=
 match l with
 | [] => K []
 | x :: xs => fvq x fun x => fvqs xs fun xs => K (x :: xs)
theorem fvqs_eq : ∀ (l : List AV) (K : List AV -> Prop), fvqs l K = K l
 | [], _ => rfl
 | x :: xs, K => by rw [fvqs, fvq_eq, fvqs_eq xs]
def fvn (fb : Bool) (x : AV) (K : AV -> Prop) : Prop :=
 match fb with
 | true => fv x K
 | false => fvq x K
theorem fvn_eq (fb : Bool) (x : AV) (K : AV -> Prop) : fvn fb x K = K x := by
 cases fb
 ·simp only [fvn, fvq_eq]
 ·simp only [fvn, fv_eq]
def fEnv (fb : Bool) (e : List (Nat × AV)) (K : List (Nat × AV) -> Prop) : Prop :=
 match e with
 | [] => K []
 | (t, x) :: r => fvn fb x fun x => fEnv fb r fun r => K ((t, x) :: r)
theorem fEnv_eq (fb : Bool) : ∀ (e : List (Nat × AV)) (K : List (Nat × AV) -> Prop), fEnv fb e K = K e
 | [], _ => rfl
 | (t, x) :: r, K => by rw [fEnv, fvn_eq, fEnv_eq fb r]
def fBs (e : List Box) (K : List Box -> Prop) : Prop :=
 match e with
 | [] => K []
 | .cells cs :: r => fs cs fun cs => fBs r fun r => K (.cells cs :: r)
 | .dead :: r => fBs r fun r => K (.dead :: r)
 | .loop x :: r => fBs r fun r => K (.loop x :: r)
 | .row x :: r => fBs r fun r => K (.row x :: r)
 | .mp x :: r => fBs r fun r => K (.mp x :: r)
 | .mq x c :: r => fBs r fun r => K (.mq x c :: r)
theorem fBs_eq : ∀ (e : List Box) (K : List Box -> Prop), fBs e K = K e
 | [], _ => rfl
 | .cells cs :: r, K => by rw [fBs, fs_eq, fBs_eq r]
 | .dead :: r, K => by rw [fBs, fBs_eq r]
 | .loop x :: r, K => by rw [fBs, fBs_eq r]
 | .row x :: r, K => by rw [fBs, fBs_eq r]
 | .mp x :: r, K => by rw [fBs, fBs_eq r]
 | .mq x c :: r, K => by rw [fBs, fBs_eq r]
def St.fo (fb : Bool) (s : St) (K : St -> Prop) : Prop := match s with
 | ⟨e, bs, lo⟩ => fEnv fb e fun e => match fb with
  | true => fBs bs fun bs => natF lo fun lo => K ⟨e, bs, lo⟩
  | false => K ⟨e, bs, lo⟩
theorem St.fo_eq (fb : Bool) (s : St) (K : St -> Prop) : s.fo fb K = K s := by
 cases fb <;> simp only [St.fo, fEnv_eq, fBs_eq, natF_eq]
structure CallN (P : Program) (f : FuncId) (vals raw : List AV) (bs : List Box) (K : AV -> List Box -> Prop) : Prop where
 sem : ∃ Q, (Sem P f vals bs Q ∨ Sem P f raw bs Q) ∧ ∀ r bs', Q r bs' -> K r bs'
theorem CallN.raw {P : Program} {f : FuncId} {vals raw : List AV} {bs : List Box} {K : AV -> List Box -> Prop} {Q : AV -> List Box -> Prop} (h : Sem P f raw bs Q) (hK : ∀ r bs', Q r bs' -> K r bs') : CallN P f vals raw bs K := ⟨Q, .inr h, hK⟩
theorem CallN.fn {P : Program} {f : FuncId} {vals raw : List AV} {bs : List Box} {K : AV -> List Box -> Prop} {r : AV} (h : Fun P f vals r) (hK : K r bs) : CallN P f vals raw bs K := ⟨_, .inl (h bs), fun r' bs' ⟨e1, e2⟩ => by subst e1 e2; exact hK⟩
structure CallP (P : Program) (f : FuncId) (vals : List AV) (K : AV -> Prop) : Prop where
 sem : ∃ r, Fun P f vals r ∧ K r
theorem CallP.fn {P : Program} {f : FuncId} {vals : List AV} {K : AV -> Prop} {r : AV} (h : Fun P f vals r) (hK : K r) : CallP P f vals K := ⟨r, h, hK⟩
structure YieldN (P : Program) (b : Nat) (vals : List AV) (bs : List Box) (K : AV -> List Box -> Prop) : Prop where
 sem : ∃ Q, SemY P b vals bs Q ∧ ∀ r bs', Q r bs' -> K r bs'
def St.pt (s : St) (d : Option Nat) (x : AV) : St := match s with
 | ⟨e, bs, lo⟩ => match d with
  | some k => ⟨envPut e k x, bs, lo⟩
  | none => ⟨e, bs, lo⟩
theorem St.pt_eq (s : St) (d : Option Nat) (x : AV) : s.pt d x = s.put d x := by cases s; cases d <;> rfl
def St.kp (s : St) (ks : List Nat) : St := match s with
 | ⟨e, bs, lo⟩ => ⟨envKeep (fun k => mem k ks) e, bs, lo⟩
def St.wb (s : St) (bs' : List Box) : St := match s with
 | ⟨e, _, lo⟩ => ⟨e, bs', lo⟩
theorem St.wb_eq (s : St) (bs' : List Box) : s.wb bs' = ⟨s.env, bs', s.lo⟩ := by cases s; rfl
def fsq (l : List AV) (K : List AV -> Prop) : Prop := fvqs l K
theorem fsq_eq (l : List AV) (K : List AV -> Prop) : fsq l K = K l := fvqs_eq l K
def callF (P : Program) (dr : Bool) (s : St) (d : Option Nat) (f : AV) (args : List AV) (K : St -> Prop) : Prop :=
 match f with
 | .fn (.func f) xs ys => fvqs ((xs ++ args ++ ys).map AV.norm) fun vals => match dr with
  | true => CallP P f vals fun r => K (s.pt d r)
  | false => match s with
   | ⟨e, bs, lo⟩ => CallN P f vals (xs ++ args ++ ys) bs fun r bs' => K (St.pt ⟨e, bs', lo⟩ d r)
 | .yl b => match dr with
  | true => False
  | false => fvqs (args.map AV.norm) fun vals => match s with
   | ⟨e, bs, lo⟩ => YieldN P b vals bs fun r bs' => K (St.pt ⟨e, bs', lo⟩ d r)
 | _ => False
theorem callF_eq {P : Program} {dr : Bool} {s : St} {d : Option Nat} {f : AV} {args : List AV} {K : St -> Prop} : callF P dr s d f args K = (match dr with
  | true => pcallK P f args fun r => K (s.put d r)
  | false => callK P s d f args K) := by
 cases dr with
 | true =>
  cases f <;> try rfl
  rename_i f xs ys; cases f <;> try rfl
  simp only [callF, pcallK, fvqs_eq, St.pt_eq]
  exact propext ⟨fun h => h.sem, fun h => ⟨h⟩⟩
 | false =>
  cases f <;> try rfl
  ·rename_i f xs ys; cases f <;> try rfl
   simp only [callF, callK, fvqs_eq, St.pt_eq, St.wb_eq]; exact propext ⟨fun h => h.sem, fun h => ⟨h⟩⟩
  ·simp only [callF, callK, fvqs_eq, St.pt_eq, St.wb_eq]; exact propext ⟨fun h => h.sem, fun h => ⟨h⟩⟩
structure LoopN (body : St -> (AX -> St -> Prop) -> Prop) (s : St) (Q : AX -> St -> Prop) : Prop where
 out : ∃ (I : Nat -> St -> Prop) (m : Nat) (s0 : St), Weak s s0 ∧ I m s0 ∧ ∀ m s, I m s -> body s (thenQ (fun s' => ∃ m' s'', m' < m ∧ Weak s' s'' ∧ I m' s'') Q)
structure RangeN (P : Program) (g : Opd) (ps : List Nat) (a b : St -> (AX -> St -> Prop) -> Prop) (s : St) (Q : AX -> St -> Prop) : Prop where
 out : ∃ s0, Weak s s0 ∧ match s0.ev g with
  | .fn (.func gf) [] lb => hasBody P gf = true ∧ ∀ x : LB, (∀ y bs R, boxLoop bs s0.bs.length = some x -> y.length = ps.length -> roundW a b x (deownEnv s0.env) s0.bs.length ps y bs R -> SemY P s0.bs.length y bs R) ->
    ∃ QQ, Sem P gf ((.yl s0.bs.length :: lb).map AV.norm) (s0.bs ++ [.loop x]) QQ ∧ ∀ r bs', QQ r bs' -> afterQ x s0 bs' Q
  | _ => False
structure RetN (s : St) (rs : List RRes) (Q : AV -> List Box -> Prop) : Prop where
 out : ∃ s', Weak s s' ∧ resK s' rs Q
structure EndN (s t : St) : Prop where
 out : Weak s t
end Go.AM
namespace Go.AM
open Go.CK Go.RowKit
structure RoundN (s : St) (e : AX) (J : AX -> List Box -> Prop) : Prop where
 out : ∃ s3 own, Weak s s3 ∧ s3.bs = own ++ [.dead] ∧ J e own
theorem EndN.claimB {s t : St} (b off z : Nat) {l : List AV} (h0 : s.at (.bx b off) = some (.sl .full l)) (hz : ∀ y ∈ l, y.cells.length = z) (h : EndN (s.upd (.bx b off) (.sl (.own z) l)) t) : EndN s t :=
 ⟨Weak.trans (fun _ G _ _ hs => ⟨G, hs.claim h0 hz⟩) h.out⟩
end Go.AM
namespace Go.AM
open Go.CK Go.RowKit
section
variable {E : Entry} {G : Gh} {s : St} {a : Act} {w : World}
theorem RS.dead (h : RS E G s a w) {b : Nat} {cs : List AV} (hb : boxCells s.bs b = some cs) (hf : ∀ x ∈ cs, x.flat1 = true) :
  ∃ G' : Gh, RS E G' ⟨s.env, s.bs.set b .dead, s.lo⟩ a w ∧ G'.σ = G.σ ∧ Cells G'.M (G.σ b) 0 cs := by
 obtain ⟨vs, T, h1, h2⟩ := h.box b cs hb; obtain ⟨hM, hmine⟩ := h.bmem b cs hb; have hle : G.M.le (addCells G.M (G.σ b) 0 vs.toList) := addCells_le fun o _ => hM o
 have hat : ∀ p x, (⟨s.env, s.bs.set b .dead, s.lo⟩ : St).at p = some x -> s.at p = some x ∧ ∀ j, p ≠ .bx b j := fun p x hp => by
  cases p with
  | sl t => exact ⟨hp, fun j e => by cases e⟩
  | bx c j =>
   simp only [St.at, boxCells_setDead] at hp ⊢
   by_cases e : c = b
   ·rw [if_pos e] at hp; cases hp
   ·rw [if_neg e] at hp; exact ⟨hp, fun j' e' => by cases e'; exact e rfl⟩
 have hbc : ∀ c ds, boxCells (s.bs.set b .dead) c = some ds -> boxCells s.bs c = some ds ∧ G.σ c ≠ G.σ b := fun c ds hc => by
  rw [boxCells_setDead] at hc
  by_cases e : c = b
  ·rw [if_pos e] at hc; cases hc
  ·rw [if_neg e] at hc; exact ⟨hc, fun e2 => e (h.inj c b ds cs hc hb e2)⟩
 have hlen : (s.bs.set b .dead).length = s.bs.length := by simp
 refine ⟨{ G with M := addCells G.M (G.σ b) 0 vs.toList }, ⟨⟨h.fr.os, h.fr.tape, h.fr.output, h.fr.size, Hp.le_trans h.fr.le hle, h.fr.heap, fun B hB hn o => ?_⟩, fun c o v hv => ?_, h.nt, fun p x hp => ?_, fun c j x hp => h.one c j x (hat _ x hp).1, fun c ds hc => h.box c ds (hbc c ds hc).1, fun c ds hc => ?_, fun c c' ds ds' hc hc' e => h.inj c c' ds ds' (hbc c ds hc).1 (hbc c' ds' hc').1 e, fun p z l hp => ?_, h.clinj, fun p B hB c ds hc => h.clbox p B hB c ds (hbc c ds hc).1, h.cllt, h.lo, by rw [hlen]; exact h.len, h.sig, ?_⟩, rfl, fun j hj => ?_⟩
 ·have hne : B ≠ G.σ b := fun e => by
   subst e; rcases hmine with h3 | h3
   ·exact hn h3
   ·omega
  exact (addCells_ne hne o).trans (h.fr.mem B hB hn o)
 ·rcases addCells_inv hv with ⟨rfl, j, rfl, hj⟩ | hv
  ·simp only [Hp.of, World.cell?, h1]; simpa using hj
  ·exact h.ok c o v hv
 ·rw [hlen]; exact (h.val p x (hat p x hp).1).mono hle (Nat.le_refl _) (fun _ _ => rfl)
 ·obtain ⟨h3, h4⟩ := hbc c ds hc; obtain ⟨h5, h6⟩ := h.bmem c ds h3; exact ⟨fun o => (addCells_ne h4 o).trans (h5 o), h6⟩
 ·obtain ⟨ad, k, h3, h4, h5⟩ := h.own p z l (hat p _ hp).1; refine ⟨ad, k, h3, h4, ?_⟩; rcases h5 with h5 | ⟨B, hB, h6, h7⟩
  ·exact .inl h5
  ·exact .inr ⟨B, hB, h6, h7.lt, h7.cells, fun o ho => (addCells_ne (fun e => h.clbox p B hB b cs hb e.symm) o).trans (h7.free o ho), h7.mine⟩
 ·refine h.sp.step hle (fun _ _ => rfl) (fun c x hc => ?_) (fun _ _ k _ => k) (fun _ _ _ _ p k => ⟨p, k⟩) (fun _ k => k); rw [boxLoop_setDead] at hc; split at hc
  ·cases hc
  ·exact hc
 ·obtain ⟨u, h3, h4, h5⟩ := h.bval hb j hj; have hfl := hf _ (List.getElem_mem hj)
  have hd : (cs[j]).deown = cs[j] := by
   generalize cs[j] = y at *; cases y <;> try rfl
   rename_i o l; cases o <;> first | rfl | cases hfl
  rw [hd] at h5
  have hju : vs.toList[j]? = some u := by
   simp only [World.cell?, h1] at h3; simpa using h3
  exact ⟨u, by have := addCells_at (M := G.M) (B := G.σ b) (off := 0) hju; exact this, h4, (h5.flat1 hfl).mono hle⟩
end
end Go.AM
namespace Go.AM
open Go.CK Go.RowKit
section
variable {E : Entry} {G : Gh} {a : Act} {w : World}
end
end Go.AM
namespace Go.AM
open Go.CK Go.RowKit
end Go.AM
