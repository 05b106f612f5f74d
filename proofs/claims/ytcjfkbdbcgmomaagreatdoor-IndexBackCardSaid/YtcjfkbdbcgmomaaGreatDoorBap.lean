/-
  Texts of this claim joined (wip/gen/bundle.py), those declarations only that are needed: AmP. By an AI agent.
-/
import Derived.Test.YtcjfkbdbcgmomaaGreatDoorBao
set_option linter.unusedSimpArgs false
set_option linter.unusedVariables false
namespace Go.AM
open Go.CK Go.RowKit
structure CondN (b : Bool) (A B : Prop) : Prop where
 t : b = true -> A
 f : b = false -> B
theorem CondN.yes {b : Bool} {A B : Prop} (h : b = true) (k : A) : CondN b A B := ⟨fun _ => k, fun e => absurd (h.symm.trans e) (by decide)⟩
theorem CondN.no {b : Bool} {A B : Prop} (h : b = false) (k : B) : CondN b A B := ⟨fun e => absurd (h.symm.trans e) (by decide), fun _ => k⟩
theorem CondN.not {b : Bool} {A B : Prop} (k : CondN b B A) : CondN (!b) A B := ⟨fun e => k.f (by simpa using e), fun e => k.t (by simpa using e)⟩
theorem CondN.is {p : Prop} [Decidable p] {A B : Prop} (h : p) (k : A) : CondN (decide p) A B := .yes (decide_eq_true h) k
theorem CondN.isnt {p : Prop} [Decidable p] {A B : Prop} (h : ¬ p) (k : B) : CondN (decide p) A B := .no (decide_eq_false h) k
theorem CondN.dec {p : Prop} [Decidable p] {A B : Prop} (h : p -> A) (k : ¬ p -> B) : CondN (decide p) A B := ⟨fun e => h (of_decide_eq_true e), fun e => k (of_decide_eq_false e)⟩
theorem CondN.lt {x y : Int} {A B : Prop} (h : x < y -> A) (k : y ≤ x -> B) : CondN (decide (x < y)) A B := .dec h fun e => k (by omega)
theorem CondN.le {x y : Int} {A B : Prop} (h : x ≤ y -> A) (k : y < x -> B) : CondN (decide (x ≤ y)) A B := .dec h fun e => k (by omega)
theorem CondN.any {b : Bool} {A B : Prop} (h : b = true -> A) (k : b = false -> B) : CondN b A B := ⟨h, k⟩
theorem CondN.or {b c : Bool} {A B : Prop} (h : CondN b A (CondN c A B)) : CondN (b || c) A B := by
 cases b
 ·exact h.f rfl
 ·exact .yes rfl (h.t rfl)
structure NeedN (p K : Prop) : Prop where
 p : p
 k : K
structure Szs (z : Nat) (l : List AV) : Prop where
 out : ∀ y ∈ l, y.cells.length = z
theorem Szs.nil {z : Nat} : Szs z [] := ⟨fun _ h => by cases h⟩
theorem Szs.cons {z : Nat} {x : AV} {l : List AV} (h : x.cells.length = z) (k : Szs z l) : Szs z (x :: l) := ⟨fun y hy => by rcases List.mem_cons.1 hy with rfl | hy; exact h; exact k.out y hy⟩
theorem Szs.app {z : Nat} {l m : List AV} (h : Szs z l) (k : Szs z m) : Szs z (l ++ m) := ⟨fun y hy => by rcases List.mem_append.1 hy with hy | hy; exact h.out y hy; exact k.out y hy⟩
theorem Szs.map {α : Type} {z : Nat} {f : α -> AV} {l : List α} (h : ∀ x, (f x).cells.length = z) : Szs z (l.map f) := ⟨fun y hy => by obtain ⟨x, _, rfl⟩ := List.mem_map.1 hy; exact h x⟩
theorem Szs.take {z : Nat} {l : List AV} (h : Szs z l) (n : Nat) : Szs z (l.take n) := ⟨fun y hy => h.out y (List.mem_of_mem_take hy)⟩
theorem Szs.drop {z : Nat} {l : List AV} (h : Szs z l) (n : Nat) : Szs z (l.drop n) := ⟨fun y hy => h.out y (List.mem_of_mem_drop hy)⟩
theorem Szs.rep {z n : Nat} {x : AV} (h : x.cells.length = z) : Szs z (List.replicate n x) := ⟨fun y hy => by rw [(List.mem_replicate.1 hy).2]; exact h⟩
theorem Szs.set {z : Nat} {l : List AV} (h : Szs z l) {x : AV} (hx : x.cells.length = z) (i : Nat) : Szs z (l.set i x) := ⟨fun y hy => by rcases List.mem_or_eq_of_mem_set hy with hy | rfl; exact h.out y hy; exact hx⟩
structure IdxN (sz : Nat) (l : List AV) (n : Int) (K : AV -> Prop) : Prop where
 out : ∃ y, (0 ≤ n ∧ l[n.toNat]? = some y ∧ y.cells.length = sz) ∧ K y
theorem IdxN.known {α : Type} {f : α -> AV} {sz : Nat} {l : List α} {n : Int} {K : AV -> Prop} {x : α} (h : l[n.toNat]? = some x) (h0 : 0 ≤ n) (hs : ∀ x, (f x).cells.length = sz) (k : K (f x)) : IdxN sz (l.map f) n K :=
 ⟨f x, ⟨h0, by rw [List.getElem?_map, h]; rfl, hs x⟩, k⟩
theorem IdxN.map {α : Type} {f : α -> AV} {sz : Nat} {l : List α} {n : Int} {K : AV -> Prop} (h0 : 0 ≤ n) (h1 : n < l.length) (hs : ∀ x, (f x).cells.length = sz) (k : ∀ x, l[n.toNat]? = some x -> K (f x)) : IdxN sz (l.map f) n K :=
 have hx : l[n.toNat]? = some (l[n.toNat]'(by omega)) := List.getElem?_eq_getElem (by omega)
 .known hx h0 hs (k _ hx)
theorem IdxN.knownN {α : Type} {f : α -> AV} {sz : Nat} {l : List α} {n : Nat} {K : AV -> Prop} {x : α} (h : l[n]? = some x) (hs : ∀ x, (f x).cells.length = sz) (k : K (f x)) : IdxN sz (l.map f) (n : Int) K := .known (by simpa using h) (by omega) hs k
theorem IdxN.mapN {α : Type} {f : α -> AV} {sz : Nat} {l : List α} {n : Nat} {K : AV -> Prop} (h1 : n < l.length) (hs : ∀ x, (f x).cells.length = sz) (k : ∀ x, l[n]? = some x -> K (f x)) : IdxN sz (l.map f) (n : Int) K := .map (by omega) (by omega) hs fun x hx => k x (by simpa using hx)
structure IdxSN (b : ByteArray) (n : Int) (K : Int -> Prop) : Prop where
 out : ∃ y, (0 ≤ n ∧ b[n.toNat]? = some y) ∧ K y.toNat
structure WrapN (k : IntKind) (n : Int) (K : Int -> Prop) : Prop where
 out : K (k.wrap n)
theorem WrapN.i64 {n : Int} {K : Int -> Prop} (h : -9223372036854775808 ≤ n ∧ n ≤ 9223372036854775807) (k : K n) : WrapN .i64 n K := ⟨by rw [IntWalk.i64_in n ⟨h.1, h.2⟩]; exact k⟩
structure LenN (l : List AV) (K : Int -> Prop) : Prop where
 out : K l.length
theorem LenN.map {α : Type} {f : α -> AV} {l : List α} {K : Int -> Prop} (h : K l.length) : LenN (l.map f) K := ⟨by rw [List.length_map]; exact h⟩
theorem LenN.nil {K : Int -> Prop} (h : K 0) : LenN [] K := ⟨h⟩
def binP (op : BinOp) (a b : AV) (K : AV -> Prop) : Prop :=
 match a, b with
 | .int k x, .int k' y => req (decide (k = k')) (match op with
  | .add => WrapN k (x + y) fun n => K (.int k n)
  | .sub => WrapN k (x - y) fun n => K (.int k n)
  | .mul => WrapN k (x * y) fun n => K (.int k n)
  | .quo => NeedN (y ≠ 0) (WrapN k (x.tdiv y) fun n => K (.int k n))
  | .rem => NeedN (y ≠ 0) (K (.int k (x.tmod y)))
  | .shr => NeedN (0 ≤ y) (K (.int k (x / 2 ^ min y.toNat k.bits)))
  | .eql => K (.bool (decide (x = y)))
  | .neq => K (.bool (!decide (x = y)))
  | .lss => K (.bool (decide (x < y)))
  | .leq => K (.bool (decide (x ≤ y)))
  | .gtr => K (.bool (decide (y < x)))
  | .geq => K (.bool (decide (y ≤ x)))
  | _ => False)
 | .str x, .str y => match op with
  | .add => NeedN (x.size + y.size ≤ lim) (K (.str (x ++ y)))
  | .eql => K (.bool (decide (x = y)))
  | .neq => K (.bool (!decide (x = y)))
  | op => binK op (.str x) (.str y) K
 | a, b => binK op a b K
theorem binP_k {op : BinOp} {a b : AV} {K : AV -> Prop} (h : binP op a b K) : binK op a b K := by
 unfold binP at h; split at h
 ·unfold binK; obtain ⟨h1, h2⟩ := req_iff.1 h; refine req_iff.2 ⟨h1, ?_⟩; cases op <;> first | exact h2 | exact h2.out | exact ⟨h2.p, h2.k.out⟩ | exact ⟨h2.p, h2.k⟩
 ·split at h
  ·exact ⟨h.p, h.k⟩
  ·exact h
  ·exact h
  ·exact h
 ·exact h
def slcP (sz : Nat) (x : AV) (lo hi mx : Option AV) (K : AV -> Prop) : Prop :=
 match x with
 | .sl _ l => bnd lo 0 fun a => bnd hi l.length fun b => match mx with
  | none => NeedN (Szs sz l) (NeedN (0 ≤ a ∧ a ≤ b ∧ b ≤ l.length) (K (.sl .no ((l.take b.toNat).drop a.toNat))))
  | some _ => bnd mx 0 fun m => NeedN (Szs sz l) (NeedN (0 ≤ a ∧ a ≤ b ∧ b = m ∧ m ≤ l.length) (K (.sl .full ((l.take b.toNat).drop a.toNat))))
 | .bsl b m k => bnd lo 0 fun a => bnd hi m fun c => match mx with
  | none => NeedN (a = 0 ∧ 0 ≤ c ∧ c ≤ k ∧ c ≤ 4294967296) (K (.bsl b c.toNat k))
  | some _ => bnd mx 0 fun q => NeedN (a = 0 ∧ 0 ≤ c ∧ c ≤ q ∧ q ≤ k ∧ c ≤ 4294967296) (K (.bsl b c.toNat q.toNat))
 | _ => False
theorem slcP_k {sz : Nat} {x : AV} {lo hi mx : Option AV} {K : AV -> Prop} (h : slcP sz x lo hi mx K) : slcK sz x lo hi mx K := by
 unfold slcP at h; unfold slcK; split at h
 ·refine bnd_mono (fun a ha => bnd_mono (fun b hb => ?_) ha) h; split at hb
  ·exact ⟨⟨hb.p.out, hb.k.p⟩, hb.k.k⟩
  ·exact bnd_mono (fun m hm => ⟨⟨hm.p.out, hm.k.p⟩, hm.k.k⟩) hb
 ·refine bnd_mono (fun a ha => bnd_mono (fun b hb => ?_) ha) h; split at hb
  ·exact ⟨hb.p, hb.k⟩
  ·exact bnd_mono (fun m hm => ⟨hm.p, hm.k⟩) hb
 ·exact h.elim
def moreP (g : More) (vals : List AV) (K : AV -> Prop) : Prop :=
 match g, vals with
 | .cap, [.sl .full l] => LenN l fun n => K (.int .i64 n)
 | g, vals => match g.val vals with
  | some (.ok r) => K r
  | some (.need p r) => NeedN p (K r)
  | none => False
theorem moreP_k {g : More} {vals : List AV} {K : AV -> Prop} (h : moreP g vals K) : moreK g vals K := by
 unfold moreP at h; unfold moreK; split at h
 ·exact h.out
 ·split at h
  ·rename_i r hg; simp only [hg]; exact h
  ·rename_i p r hg; simp only [hg]; exact ⟨h.p, h.k⟩
  ·exact h.elim
def RX.pP (rx : RX) (ev : Opd -> AV) (rd : AV -> Option (List AV)) (K : AV -> Prop) : Prop :=
 match rx with
 | .pick c a b => match ev c with
  | .bool t => CondN t (K (ev a)) (K (ev b))
  | _ => False
 | .idx sz x i => match ev x, ev i with
  | .sl _ l, .int _ n => IdxN sz l n fun y => K (.ept y.cells)
  | .bsl b m _, .int _ n => NeedN (0 ≤ n ∧ n < m) (K (.elp b n.toNat sz 0))
  | _, _ => False
 | .idxS x i => match ev x, ev i with
  | .str b, .int _ n => IdxSN b n fun y => K (.int .u8 y)
  | _, _ => False
 | .len str o => match str, ev o with
  | false, .sl _ l => LenN l fun n => K (.int .i64 n)
  | false, .bsl _ m _ => K (.int .i64 m)
  | false, .lit _ m _ => K (.int .i64 m)
  | true, .str b => K (.int .i64 b.size)
  | _, _ => False
 | .un op o => match op, ev o with
  | .neg, .int k n => WrapN k (0 - n) fun n => K (.int k n)
  | .not, .bool b => K (.bool (!b))
  | _, _ => False
 | .conv k o => match k, ev o with
  | some k, .int _ n => WrapN k n fun n => K (.int k n)
  | none, .str b => K (.str b)
  | _, _ => False
 | .bin op x y => binP op (ev x) (ev y) K
 | .mk sz z l c => match ev l, ev c with
  | .int _ n, .int _ m => NeedN (0 ≤ n ∧ n ≤ m ∧ m ≤ 4294967296) (K (.sl (.own sz) (List.replicate n.toNat z)))
  | _, _ => False
 | .minmax mx x y => match ev x, ev y with
  | .int k a, .int k' b => req (decide (k = k')) (match mx with
   | true => K (.int k (max a b))
   | false => K (.int k (min a b)))
  | _, _ => False
 | .idxA ln sz x i => match ev i with
  | .int _ n => req (isPtr (ev x)) (NeedN (0 ≤ n ∧ n < (ln : Int)) (K (movedTo (n.toNat * sz) (ev x))))
  | _ => False
 | .slc sz x lo hi mx => slcP sz (ev x) (lo.map ev) (hi.map ev) (mx.map ev) K
 | .more g args => moreP g (evs ev args) K
 | .bslice sz rs => elemsOf ev sz rs fun l => fvs l fun l => K (.sl .full l)
 | rx => rx.pK ev rd K
theorem RX.pP_k {rx : RX} {ev : Opd -> AV} {rd : AV -> Option (List AV)} {K : AV -> Prop} (h : rx.pP ev rd K) : rx.pK ev rd K := by
 cases rx <;> try exact h
 ·simp only [RX.pP, RX.pK, mmK] at h ⊢; split at h
  ·rename_i mx _ _ _ _ _ _ _ _ h1 h2; rw [h1, h2]; simp only; obtain ⟨h3, h4⟩ := req_iff.1 h; refine req_iff.2 ⟨h3, ?_⟩; cases mx <;> exact h4
  ·exact h.elim
 ·simp only [RX.pP, RX.pK, idxAK] at h ⊢; split at h
  ·rename_i h1; rw [h1]; simp only; obtain ⟨h3, h4⟩ := req_iff.1 h; exact req_iff.2 ⟨h3, h4.p, h4.k⟩
  ·exact h.elim
 ·exact slcP_k h
 ·simp only [RX.pP, RX.pK, pickK] at h ⊢; split at h
  ·rename_i h1; rw [h1]; exact ⟨h.t, h.f⟩
  ·exact h.elim
 ·simp only [RX.pP, RX.pK, idxK] at h ⊢; split at h
  ·rename_i h1 h2; rw [h1, h2]; exact h.out
  ·rename_i h1 h2; rw [h1, h2]; exact ⟨h.p, h.k⟩
  ·exact h.elim
 ·simp only [RX.pP, RX.pK, idxSK] at h ⊢; split at h
  ·rename_i h1 h2; rw [h1, h2]; exact h.out
  ·exact h.elim
 ·simp only [RX.pP, RX.pK, lenK] at h ⊢; split at h
  ·rename_i h1; rw [h1]; exact h.out
  ·rename_i h1; rw [h1]; exact h
  ·rename_i h1; rw [h1]; exact h
  ·rename_i h1; rw [h1]; exact h
  ·exact h.elim
 ·simp only [RX.pP, RX.pK, unK] at h ⊢; split at h
  ·rename_i h1; rw [h1]; exact h.out
  ·rename_i h1; rw [h1]; exact h
  ·exact h.elim
 ·simp only [RX.pP, RX.pK, convK] at h ⊢; split at h
  ·rename_i h1; rw [h1]; exact h.out
  ·rename_i h1; rw [h1]; exact h
  ·exact h.elim
 ·exact binP_k h
 ·simp only [RX.pP, RX.pK, fvs_eq] at h ⊢; exact h
 ·simp only [RX.pP, RX.pK, mkK] at h ⊢; split at h
  ·rename_i h1 h2; rw [h1, h2]; exact ⟨h.p, h.k⟩
  ·exact h.elim
 ·exact moreP_k h
def appP (z : Nat) (s : St) (o : Opd) (x : AV) (K : AV -> St -> Prop) : Prop :=
 match x with
 | .sl _ xs => match o with
  | .t t => match s.get t with
   | .sl (.own z') l => req (Nat.beq z z') (NeedN (Szs z xs) (NeedN (l.length + xs.length ≤ glim) (K (.sl (.own z) (l ++ xs)) (s.put (some t) (.sl .no l)))))
   | .sl .full l => NeedN (Szs z (l ++ xs)) (NeedN (l.length + xs.length ≤ glim) (K (.sl (.own z) (l ++ xs)) s))
   | _ => False
  | .c (.sl .full l) => NeedN (Szs z (l ++ xs)) (NeedN (l.length + xs.length ≤ glim) (K (.sl (.own z) (l ++ xs)) s))
  | _ => False
 | _ => False
theorem appP_k {z : Nat} {s : St} {o : Opd} {x : AV} {K : AV -> St -> Prop} (h : appP z s o x K) : appendK z s o x K := by
 unfold appP at h; unfold appendK; split at h
 ·split at h
  ·split at h
   ·rename_i h1; simp only [h1]; obtain ⟨h3, h4⟩ := req_iff.1 h; exact req_iff.2 ⟨h3, ⟨h4.p.out, h4.k.p⟩, h4.k.k⟩
   ·rename_i h1; simp only [h1]; exact ⟨⟨h.p.out, h.k.p⟩, h.k.k⟩
   ·exact h.elim
  ·exact ⟨⟨h.p.out, h.k.p⟩, h.k.k⟩
  ·exact h.elim
 ·exact h.elim
structure HasN (P : Program) (f : FuncId) (K : Prop) : Prop where
 h : hasBody P f = true
 k : K
structure BxAt (bs : List Box) (b : Nat) (K : List AV -> Prop) : Prop where
 out : ∃ cs, boxCells bs b = some cs ∧ K cs
structure BxSet (bs : List Box) (b : Nat) (cs : List AV) (K : List Box -> Prop) : Prop where
 out : K (bs.set b (.cells cs))
theorem BxAt.of {bs : List Box} {b : Nat} {K : List AV -> Prop} {cs : List AV} (h : boxCells bs b = some cs) (k : K cs) : BxAt bs b K := ⟨cs, h, k⟩
theorem BxAt.last {bs : List Box} {K : List AV -> Prop} {cs : List AV} (k : K cs) : BxAt (bs ++ [.cells cs]) bs.length K := .of (by rw [boxCells_append, if_pos rfl]; rfl) k
theorem BxAt.last2 {bs : List Box} {K : List AV -> Prop} {cs : List AV} {x : Box} (k : K cs) : BxAt ((bs ++ [.cells cs]) ++ [x]) bs.length K := .of (by rw [boxCells_append, if_neg (by simp), boxCells_append, if_pos rfl]; rfl) k
theorem BxSet.last {bs : List Box} {c : Box} {cs : List AV} {K : List Box -> Prop} (k : K (bs ++ [.cells cs])) : BxSet (bs ++ [c]) bs.length cs K := ⟨by simpa using k⟩
def ldK (agg : Bool) (n : Nat) (l : List AV) (K : AV -> Prop) : Prop :=
 match agg with
 | true => req (Nat.ble n l.length) (K (.agg ((l.map AV.deown).take n)))
 | false => match l with
  | c :: _ => match c with
   | .sl (.own _) _ => False
   | c => K c
  | [] => False
theorem ldK_loadK {s : St} {b off : Nat} {cs : List AV} (hb : boxCells s.bs b = some cs) {agg : Bool} {n : Nat} {K : AV -> Prop} (h : ldK agg n (cs.drop off) K) : loadK agg n (s.rd (.ptr b off)) K := by
 unfold ldK at h; simp only [St.rd, hb, loadK]
 cases agg with
 | true => simpa using h
 | false =>
  simp only at h ⊢
  cases hc : cs.drop off with
  | nil => rw [hc] at h; exact h.elim
  | cons c r =>
   rw [hc] at h; simp only [List.map_cons]
   cases c with
   | sl o l => cases o with
    | own z => exact h.elim
    | _ => exact h
   | _ => exact h
theorem ldK_loadTK {s : St} {b off : Nat} {cs : List AV} (hb : boxCells s.bs b = some cs) {agg : Bool} {n : Nat} {d : Option Nat} {K : St -> Prop} (h : ldK agg n (cs.drop off) fun r => K (s.put d r)) : loadTK agg n s d (.ptr b off) K := by
 have h2 := ldK_loadK (s := s) hb h; unfold loadTK; split
 ·rename_i t b' off' he; cases he; have hat : s.at (.bx b off) = cs[off]? := by simp [St.at, hb]
  rw [hat]; split
  ·rename_i z l hz; have hlt : off < cs.length := (List.getElem?_eq_some_iff.1 hz).1
   have : cs.drop off = .sl (.own z) l :: cs.drop (off + 1) := by
    rw [List.drop_eq_getElem_cons hlt, (List.getElem?_eq_some_iff.1 hz).2]
   rw [this] at h; exact h.elim
  ·exact h2
 ·exact h2
def stV (s : St) (x : Opd) : Bool := match x with
 | .t k => match s.get k with
  | .sl (.own _) _ => false
  | _ => true
 | _ => true
def stK (n : Nat) (s : St) (b off : Nat) (v : AV) (K : St -> Prop) : Prop := BxAt s.bs b fun cs => req (cellOk v && (Nat.beq v.cells.length n && Nat.ble (off + n) cs.length)) (fsq (setAt cs off v.cells) fun cs => BxSet s.bs b cs fun bs => K (s.wb bs))
theorem stK_storeK {n : Nat} {s : St} {b off : Nat} {v : AV} {K : St -> Prop} (h : stK n s b off v K) : storeK n s (.ptr b off) v K := by
 obtain ⟨cs, h1, h2⟩ := h.out; obtain ⟨h3, h4⟩ := req_iff.1 h2; simp only [storeK, h1]; rw [fsq_eq] at h4; have h5 := h4.out; rw [St.wb_eq] at h5; exact req_iff.2 ⟨h3, h5⟩
theorem stK_storeTK {n : Nat} {s : St} {b off : Nat} {x : Opd} {K : St -> Prop} (hx : stV s x = true) (h : stK n s b off (s.ev x) K) : storeTK n s (.ptr b off) x K := by
 have h2 := stK_storeK h; unfold storeTK; split
 ·rename_i b' off' k he; cases he; split
  ·rename_i z l hg; simp [stV, hg] at hx
  ·exact h2
 ·rename_i he; cases he
 ·exact h2
structure AppN (z : Nat) (s : St) (x y : AV) (K : AV -> St -> Prop) : Prop where
 out : appB z s x y K
structure ZerN (z : Nat) (s : St) (x y : AV) (K : AV -> St -> Prop) : Prop where
 out : appZ z s x y K
structure NilN (l : List AV) (K : Bool -> Prop) : Prop where
 out : (l ≠ [] -> K false) ∧ (l = [] -> ∀ b, K b)
structure MkN (z : Nat) (zx : AV) (s : St) (l c : AV) (K : AV -> St -> Prop) : Prop where
 out : mkB z zx s l c K
structure MapN (l : List (Int × AV)) (n : Int) (ok : Bool) (z : AV) (K : AV -> Prop) : Prop where
 out : match mget l n with
  | some x => mapOk x = true ∧ K (okR ok x true)
  | none => K (okR ok z false)
structure MqN (l : List (Int × AV × Nat)) (n : Int) (ok : Bool) (z : AV) (K : AV -> Prop) : Prop where
 out : match qget l n with
  | some x => mapOk x = true ∧ K (okR ok x true)
  | none => K (okR ok z false)
structure EntN (zx : AV) (s : St) (m k : AV) (K : AV -> St -> Prop) : Prop where
 out : entMK zx s m k K
structure StoN (s : St) (m j v : AV) (K : St -> Prop) : Prop where
 out : stoMK s m j v K
structure BsrN (z : Nat) (vals : List AV) (s : St) (K : AV -> St -> Prop) : Prop where
 out : bsRK z vals s K
structure SsN (ks : List FK) (s : St) (m k v : AV) (K : St -> Prop) : Prop where
 out : setSK ks s m k v K
structure SgN (ks : List FK) (ok : Bool) (z : AV) (s : St) (m k : AV) (K : AV -> Prop) : Prop where
 out : getSK ks ok z s m k K
structure TbN (e : TbE) (vals : List AV) (s : St) (d : Option Nat) (K : St -> Prop) : Prop where
 out : tbK e vals s d K
def slNP (x n : AV) (s : St) (d : Option Nat) (K : St -> Prop) : Prop :=
 match x, n with
 | .sl .full [], .int _ n => NeedN (n = 0) (K (s.put d (.sl .full [])))
 | _, _ => False
structure MpAt (bs : List Box) (b : Nat) (K : List (Int × AV) -> Prop) (Kq : List (Int × AV × Nat) -> Nat -> Prop) : Prop where
 out : (∃ l, bs[b]? = some (.mp l) ∧ K l) ∨ (∃ l c, bs[b]? = some (.mq l c) ∧ Kq l c)
def setMP (s : St) (m k v : AV) (K : St -> Prop) : Prop :=
 match m, k with
 | .mpt b, .int .i64 n => match s with
  | ⟨e, bs, lo⟩ => MpAt bs b (fun l => NeedN (mapOk v = true) (K ⟨e, bs.set b (.mp (mput l n v)), lo⟩)) fun l c => NeedN (mapOk v = true) (K ⟨e, bs.set b (.mq (qput l n v c) (qcnt l n c)), lo⟩)
 | _, _ => False
def getMP (ok : Bool) (z : AV) (s : St) (m k : AV) (K : AV -> Prop) : Prop :=
 match m, k with
 | .mpt b, .int .i64 n => match s with
  | ⟨_, bs, _⟩ => MpAt bs b (fun l => MapN l n ok z K) fun l _ => MqN l n ok z K
 | .nmp, .int .i64 _ => K (okR ok z false)
 | _, _ => False
def mkMP (s : St) (d : Option Nat) (K : St -> Prop) : Prop := match s with
 | ⟨e, bs, lo⟩ => K (St.pt ⟨e, bs ++ [.mp []], lo⟩ d (.mpt bs.length))
theorem mkMP_eq {s : St} {d : Option Nat} {K : St -> Prop} : mkMP s d K = mkMK s d K := by cases s; simp only [mkMP, mkMK, St.pt_eq]
def movP (s : St) (d : Option Nat) (o : Opd) (K : St -> Prop) : Prop :=
 match o with
 | .c x => K (s.pt d x)
 | .t t => match s.get t with
  | .sl (.own z) l => match d with
   | some d => req (!(Nat.beq d t)) (K (((s.pt (some d) (.sl .no l)).pt (some t) (.sl .no l)).pt (some d) (.sl (.own z) l)))
   | none => False
  | x => K (s.pt d x)
theorem movP_eq {s : St} {d : Option Nat} {o : Opd} {K : St -> Prop} : movP s d o K = movK s d o K := by
 unfold movP movK; simp only [St.pt_eq]; rfl
def boxP (s : St) (d : Option Nat) (x : AV) (K : St -> Prop) : Prop := match s with
 | ⟨e, bs, lo⟩ => req (cellOk x) (fsq x.cells fun cs => K (St.pt ⟨e, bs ++ [.cells cs], lo⟩ d (.ptr bs.length 0)))
theorem boxP_eq {s : St} {d : Option Nat} {x : AV} {K : St -> Prop} : boxP s d x K = boxK s x fun r s' => K (s'.put d r) := by
 cases s; simp only [boxP, boxK, fsq_eq, St.pt_eq, St.addBox]
def effP (e : Eff) (vals : List AV) (s : St) (d : Option Nat) (K : St -> Prop) : Prop :=
 match e, vals with
 | .appB z, [x, y] => AppN z s x y fun r s' => K (s'.pt d r)
 | .appZ z, [x, y] => ZerN z s x y fun r s' => K (s'.pt d r)
 | .slN, [x, n] => slNP x n s d K
 | .mkM, [] => mkMP s d K
 | .mkM, [.int _ _] => mkMP s d K
 | .setM, [m, k, v] => setMP s m k v K
 | .getM ok zx, [m, k] => getMP ok zx s m k fun r => K (s.pt d r)
 | .mkB z zx, [l, c] => MkN z zx s l c fun r s' => K (s'.pt d r)
 | .entM zx, [m, k] => EntN zx s m k fun r s' => K (s'.pt d r)
 | .stoM, [m, j, v] => StoN s m j v K
 | .bsR z, vals => BsrN z vals s fun r s' => K (s'.pt d r)
 | .nilS neg, [.sl _ l] => NilN l fun b => K (s.pt d (.bool (negIf neg b)))
 | .setS ks, [m, k, v] => SsN ks s m k v K
 | .getS ks ok zx, [m, k] => SgN ks ok zx s m k fun r => K (s.pt d r)
 | .tab e, vals => TbN e vals s d K
 | _, _ => False
theorem effP_k {e : Eff} {vals : List AV} {s : St} {d : Option Nat} {K : St -> Prop} (h : effP e vals s d K) : effK e vals s d K := by
 unfold effP at h; simp only [St.pt_eq, mkMP_eq] at h; unfold effK; split at h
 ·exact h.out
 ·exact h.out
 ·unfold slNP at h; unfold slNK; split at h
  ·exact ⟨h.p, h.k⟩
  ·exact h.elim
 ·exact h
 ·exact h
 ·unfold setMP at h; unfold setMK; split at h
  ·obtain ⟨e, bs, lo⟩ := s; rcases h.out with ⟨l, hb, h2⟩ | ⟨l, c, hb, h2⟩ <;> simp only [hb] <;> exact ⟨h2.p, h2.k⟩
  ·exact h.elim
 ·unfold getMP at h; unfold getMK; split at h
  ·obtain ⟨e, bs, lo⟩ := s; rcases h.out with ⟨l, hb, h2⟩ | ⟨l, c, hb, h2⟩ <;> simp only [hb] <;> exact h2.out
  ·exact h
  ·exact h.elim
 ·exact h.out
 ·exact h.out
 ·exact h.out
 ·exact h.out
 ·exact h.out
 ·exact h.out
 ·exact h.out
 ·exact h.out
 ·exact h.elim
structure ElN (agg : Bool) (n : Nat) (s : St) (p : AV) (K : AV -> Prop) : Prop where
 out : loadK agg n (s.rd p) K
structure EsN (n : Nat) (s : St) (b i z off : Nat) (v : AV) (K : St -> Prop) : Prop where
 out : storeEK n s b i z off v K
def RX.gp (P : Program) (fb dr : Bool) (rx : RX) (s : St) (d : Option Nat) (K : St -> Prop) : Prop :=
 match rx with
 | .call f args => callF P dr s d (s.ev f) (evs s.ev args) K
 | .callv f args => match s.ev f with
  | .fn (.func k) xs ys => HasN P k (callF P dr s d (.fn (.func k) xs ys) (evs s.ev args) K)
  | .yl b => callF P dr s d (.yl b) (evs s.ev args) K
  | _ => False
 | .mov o => match dr with
  | true => K (s.pt d (s.ev o))
  | false => movP s d o K
 | .take t => movP s d (.t t) K
 | .box o => boxP s d (s.ev o) K
 | .load agg n o => match s.ev o with
  | .elp b i z off => ElN agg n s (.elp b i z off) fun r => K (s.pt d r)
  | p => match fb with
   | true => match dr with
    | true => loadK agg n (s.rd p) fun r => K (s.pt d r)
    | false => loadTK agg n s d p K
   | false => match p with
    | .ptr b off => BxAt s.bs b fun cs => ldK agg n (cs.drop off) fun r => K (s.pt d r)
    | p => match dr with
     | true => loadK agg n (s.rd p) fun r => K (s.pt d r)
     | false => loadTK agg n s d p K
 | .store n p x => match s.ev p with
  | .elp b i z off => match dr with
   | true => False
   | false => EsN n s b i z off (s.ev x) K
  | q => match fb with
   | true => match dr with
    | true => storeK n s q (s.ev x) K
    | false => storeTK n s q x K
   | false => match q with
    | .ptr b off => req (stV s x) (stK n s b off (s.ev x) K)
    | _ => False
 | .stn bnd n p x => match dr with
  | true => match s.ev p with
   | .ptr b off => req (Nat.ble bnd b) (match fb with
    | true => storeK n s (.ptr b off) (s.ev x) K
    | false => req (stV s x) (stK n s b off (s.ev x) K))
   | _ => False
  | false => False
 | .append z o x => appP z s o (s.ev x) fun r s' => K (s'.pt d r)
 | .eff e args => match dr with
  | true => False
  | false => effP e (evs s.ev args) s d K
 | rx => rx.pP s.ev s.rd fun r => K (s.pt d r)
theorem RX.gp_run {P : Program} {fb dr : Bool} {rx : RX} {s : St} {d : Option Nat} {K : St -> Prop} (h : rx.gp P fb dr s d K) : rx.run P dr s d K := by
 unfold RX.gp at h; simp only [St.pt_eq, movP_eq, boxP_eq] at h
 cases rx with
 | call f args => cases dr <;> simpa only [RX.gp, RX.run, callF_eq] using h
 | callv f args =>
  simp only [RX.gp] at h; simp only [RX.run]; split at h
  ·rename_i k xs ys he; rw [he]; have h2 := h.k; rw [callF_eq] at h2; exact ⟨h.h, by cases dr <;> exact h2⟩
  ·rename_i b he; rw [he]; rw [callF_eq] at h; exact ⟨trivial, by cases dr <;> exact h⟩
  ·exact h.elim
 | append z o x => exact appP_k (K := fun r s' => K (s'.put _ r)) h
 | mov | take | box => exact h
 | eff e args =>
  cases dr with
  | true => exact h.elim
  | false => exact effP_k h
 | load agg n o =>
  simp only [RX.gp, RX.run] at h ⊢; split at h
  ·rename_i b i z off he; rw [he]; have h2 := h.out
   cases dr with
   | true => exact h2
   | false => cases agg <;> cases d <;> exact h2
  ·cases fb with
   | true => exact h
   | false =>
    simp only at h; split at h
    ·rename_i b off he; obtain ⟨cs, h1, h2⟩ := h.out; rw [he]
     cases dr with
     | true => exact ldK_loadK h1 h2
     | false => exact ldK_loadTK h1 h2
    ·exact h
 | store n p x =>
  simp only [RX.gp, RX.run] at h ⊢; split at h
  ·rename_i b i z off he; rw [he]
   cases dr with
   | true => exact h.elim
   | false =>
    have h2 := h.out; rcases n with _ | _ | n <;> first | exact h2 | (cases x <;> exact h2)
  ·cases fb with
   | true => exact h
   | false =>
    simp only at h; split at h
    ·rename_i b off he; obtain ⟨h1, h2⟩ := req_iff.1 h; rw [he]
     cases dr with
     | true => exact stK_storeK h2
     | false => exact stK_storeTK h1 h2
    ·exact h.elim
 | stn bnd n p x =>
  cases dr with
  | false => exact h.elim
  | true =>
   simp only [RX.gp, RX.run, stnK] at h ⊢; split at h
   ·rename_i b off he; rw [he]; obtain ⟨h1, h2⟩ := req_iff.1 h; refine req_iff.2 ⟨h1, ?_⟩
    cases fb with
    | true => exact h2
    | false => exact stK_storeK (req_iff.1 h2).2
   ·exact h.elim
 | minmax mx x y => exact RX.pP_k (rx := .minmax mx x y) (ev := s.ev) (rd := s.rd) (K := fun r => K (s.put _ r)) h
 | idxA a b x i => exact RX.pP_k (rx := .idxA a b x i) (ev := s.ev) (rd := s.rd) (K := fun r => K (s.put _ r)) h
 | slc a b c d e => exact RX.pP_k (rx := .slc a b c d e) (ev := s.ev) (rd := s.rd) (K := fun r => K (s.put _ r)) h
 | pick a b c => exact RX.pP_k (rx := .pick a b c) (ev := s.ev) (rd := s.rd) (K := fun r => K (s.put _ r)) h
 | idx a b c => exact RX.pP_k (rx := .idx a b c) (ev := s.ev) (rd := s.rd) (K := fun r => K (s.put _ r)) h
 | idxS a b => exact RX.pP_k (rx := .idxS a b) (ev := s.ev) (rd := s.rd) (K := fun r => K (s.put _ r)) h
 | len a b => exact RX.pP_k (rx := .len a b) (ev := s.ev) (rd := s.rd) (K := fun r => K (s.put _ r)) h
 | un a b => exact RX.pP_k (rx := .un a b) (ev := s.ev) (rd := s.rd) (K := fun r => K (s.put _ r)) h
 | conv a b => exact RX.pP_k (rx := .conv a b) (ev := s.ev) (rd := s.rd) (K := fun r => K (s.put _ r)) h
 | bin a b c => exact RX.pP_k (rx := .bin a b c) (ev := s.ev) (rd := s.rd) (K := fun r => K (s.put _ r)) h
 | bslice a b => exact RX.pP_k (rx := .bslice a b) (ev := s.ev) (rd := s.rd) (K := fun r => K (s.put _ r)) h
 | more g a => exact moreP_k (K := fun r => K (s.put _ r)) h
 | mk a b c d => exact RX.pP_k (rx := .mk a b c d) (ev := s.ev) (rd := s.rd) (K := fun r => K (s.put _ r)) h
 | _ => exact h
def ROp.gp (P : Program) (fb dr : Bool) (r : ROp) (s : St) (K : St -> Prop) : Prop :=
 match r.guard with
 | none => r.rx.gp P fb dr s r.dst K
 | some (g, want) => match s.ev (.t g) with
  | .bool b => match want with
   | true => CondN b (r.rx.gp P fb dr s r.dst K) (K (s.pt r.dst (.tup [])))
   | false => CondN b (K (s.pt r.dst (.tup []))) (r.rx.gp P fb dr s r.dst K)
  | .tup [] => K (s.pt r.dst (.tup []))
  | _ => False
theorem ROp.gp_run {P : Program} {fb dr : Bool} {r : ROp} {s : St} {K : St -> Prop} (h : r.gp P fb dr s K) : r.run P dr s K := by
 unfold ROp.gp at h; simp only [St.pt_eq] at h; unfold ROp.run; split at h
 ·rename_i hg; rw [hg]; exact RX.gp_run h
 ·rename_i g want hg; rw [hg]; simp only; split at h
  ·rename_i b hb; rw [hb]; simp only [gv]
   cases want with
   | true => exact ⟨fun e => RX.gp_run (h.t e), fun e => h.f (by cases b; rfl; exact absurd rfl e)⟩
   | false => exact ⟨fun e => RX.gp_run (h.f e), fun e => h.t (by cases b; exact absurd rfl e; rfl)⟩
  ·rename_i hb; rw [hb]; simp only [gv]; exact ⟨fun e => (by cases want <;> cases e), fun _ => h⟩
  ·exact h.elim
def opsP (P : Program) (fb : Bool) (dr : Bool) : List ROp -> St -> (St -> Prop) -> Prop
 | [], s, K => K s
 | r :: rs, s, K => r.gp P fb dr s fun s' => s'.fo fb fun s' => opsP P fb dr rs s' K
theorem opsP_k {P : Program} {fb dr : Bool} : ∀ {rs : List ROp} {s : St} {K : St -> Prop}, opsP P fb dr rs s K -> opsK P dr rs s K
 | [], _, _, h => h
 | r :: rs, s, K, h => by
  refine ROp.mono (fun s' hs' => ?_) (ROp.gp_run h); rw [St.fo_eq] at hs'; exact opsP_k hs'
def soloP (P : Program) (fb : Bool) (p : Nat) : Nat -> List ROp -> St -> (St -> Prop) -> Prop
 | _, [], s, K => K s
 | i, r :: rs, s, K => r.gp P fb (!(Nat.beq i p)) s fun s' => s'.fo fb fun s' => soloP P fb p (i + 1) rs s' K
theorem soloP_k {P : Program} {fb : Bool} {p : Nat} : ∀ {rs : List ROp} {i : Nat} {s : St} {K : St -> Prop}, soloP P fb p i rs s K -> soloK P p i rs s K
 | [], _, _, _, h => h
 | r :: rs, i, s, K, h => by
  refine ROp.mono (fun s' hs' => ?_) (ROp.gp_run h); rw [St.fo_eq] at hs'; exact soloP_k hs'
def multP (P : Program) (fb : Bool) (V : List Nat) : List (Nat × ROp) -> St -> (St -> Prop) -> Prop
 | [], s, K => K s
 | (c, r) :: l, s, K => match c with
  | 0 => r.gp P fb true s fun s' => s'.fo fb fun s' => multP P fb V l s' K
  | 1 => r.gp P fb false s fun s' => s'.fo fb fun s' => multP P fb V l s' K
  | _ + 2 => r.gp P fb false s fun s' => s'.fo fb fun s' => PreN (gets s V) s.bs s'.bs (multP P fb V l s' K)
theorem multP_k {P : Program} {fb : Bool} {V : List Nat} : ∀ {q : List (Nat × ROp)} {s : St} {K : St -> Prop}, multP P fb V q s K -> multK P V q s K
 | [], _, _, h => h
 | (0, r) :: l, s, K, h => by
  refine ROp.mono (fun s' hs' => ?_) (ROp.gp_run h); rw [St.fo_eq] at hs'
  exact multP_k hs'
 | (1, r) :: l, s, K, h => by
  refine ROp.mono (fun s' hs' => ?_) (ROp.gp_run h); rw [St.fo_eq] at hs'
  exact multP_k hs'
 | (_ + 2, r) :: l, s, K, h => by
  refine ROp.mono (fun s' hs' => ?_) (ROp.gp_run h); rw [St.fo_eq] at hs'; exact ⟨hs'.h, multP_k hs'.k⟩
structure BothN (p q : Prop) : Prop where
 p : p
 q : q
structure LoopP (P : Program) (c : RC) (s : St) (Q : AX -> St -> Prop) : Prop where
 out : (RC.loop c).wp P s Q
structure RangeP (P : Program) (g : Opd) (ps : List Nat) (a b : RC) (s : St) (Q : AX -> St -> Prop) : Prop where
 out : (RC.range g ps a b).wp P s Q
def RC.gp (P : Program) (fb : Bool) : RC -> St -> (AX -> St -> Prop) -> Prop
 | .skip, s, Q => Q .normal s
 | .reg dr keep ops, s, Q => opsP P fb dr ops s fun s' => (s'.kp keep).fo fb fun s' => Q .normal s'
 | .solo p keep ops, s, Q => soloP P fb p 0 ops s fun s' => (s'.kp keep).fo fb fun s' => Q .normal s'
 | .mult keep ops, s, Q => multP P fb (lookS ops) ops s fun s' => (s'.kp keep).fo fb fun s' => Q .normal s'
 | .both keep qa q1 q2, s, Q => multP P fb (lookB qa q1 q2) qa s fun sA => BothN (multP P fb (lookB qa q1 q2) q1 sA fun s' => (s'.kp keep).fo fb fun s' => Q .normal s') (multP P fb (lookB qa q1 q2) q2 sA fun s' => (s'.kp keep).fo fb fun s' => Q .normal s')
 | .seq a b, s, Q => a.gp P fb s (thenQ (fun s' => b.gp P fb s' Q) Q)
 | .cond c a b, s, Q => match s.ev c with
  | .bool t => CondN t (a.gp P fb s Q) (b.gp P fb s Q)
  | _ => False
 | .block id c, s, Q => c.gp P fb s (blockQ id Q)
 | .loop c, s, Q => LoopP P c s Q
 | .range g ps a b, s, Q => RangeP P g ps a b s Q
 | .exit id, s, Q => Q (.exit id) s
 | .ret, s, Q => Q .ret s
theorem RC.gp_wp {P : Program} {fb : Bool} : ∀ {c : RC} {s : St} {Q : AX -> St -> Prop}, c.gp P fb s Q -> c.wp P s Q
 | .skip, _, _, h => h
 | .reg dr keep ops, s, Q, h => opsK_mono (fun s' hs' => by rwa [St.fo_eq] at hs') (opsP_k h)
 | .solo p keep ops, s, Q, h => soloK_mono (fun s' hs' => by rwa [St.fo_eq] at hs') (soloP_k h)
 | .mult keep ops, s, Q, h => multK_mono (fun s' hs' => by rwa [St.fo_eq] at hs') (multP_k h)
 | .both keep qa q1 q2, s, Q, h => multK_mono (fun sA hs' => ⟨multK_mono (fun s' hs' => by rwa [St.fo_eq] at hs') (multP_k hs'.p), multK_mono (fun s' hs' => by rwa [St.fo_eq] at hs') (multP_k hs'.q)⟩) (multP_k h)
 | .seq a b, s, Q, h => RC.wp_mono (c := a) (fun x s' hx => thenQ_mono (fun s2 h2 => RC.gp_wp (c := b) h2) x s' hx) (RC.gp_wp (c := a) h)
 | .cond c a b, s, Q, h => by
  simp only [RC.gp, RC.wp] at h ⊢; split at h
  ·rename_i t ht; rw [ht]; exact ⟨fun e => RC.gp_wp (c := a) (h.t e), fun e => RC.gp_wp (c := b) (h.f e)⟩
  ·exact h.elim
 | .block id c, s, Q, h => RC.gp_wp (c := c) h
 | .loop c, s, Q, h => h.out
 | .range g ps a b, s, Q, h => h.out
 | .exit id, _, _, h => h
 | .ret, _, _, h => h
def nrmT : AV -> AV
 | .tup cs => .tup (cs.map AV.norm)
 | x => x.norm
theorem RV.nrmT {M : Hp} {σ : Nat -> Nat} {n : Nat} {x : AV} {v : Value} (h : RV M σ n x v) : RV M σ n (nrmT x) v := by
 cases x with
 | tup cs =>
  obtain ⟨vs, rfl, hl, hv⟩ := h.inv_tup; refine .tup _ vs (by simpa using hl) fun j hj v hjv => ?_
  simp only [List.length_map] at hj; rw [List.getElem_map]
  exact (hv j hj v hjv).norm
 | _ => exact h.norm
theorem deown_nrmT (x : AV) : AM.nrmT x.deown = AM.nrmT x := by
 cases x with
 | sl o l => cases o <;> rfl
 | _ => rfl
theorem Sem.nrm {P : Program} {f : FuncId} {vals : List AV} {bs : List Box} {Q : AV -> List Box -> Prop} (h : Sem P f vals bs fun r b => Q r b ∨ Q (nrmT r) b) : Sem P f vals bs Q := by
 intro E G a0 w args lo h1 h2 h3; refine (h E G a0 w args lo h1 h2 h3).mono ?_; rintro e w' ⟨v, r, bs', G', rfl, q, hs⟩; rcases q with q | q
 ·exact ⟨v, r, bs', G', rfl, q, hs⟩
 ·have hat : (⟨[(0, r)], bs', bs.length⟩ : St).at (.sl 0) = some r := rfl; have hv := hs.val _ _ hat
  have := hs.upd (q := .sl 0) hat (x := nrmT r) (by
   have := hv.nrmT
   rwa [deown_nrmT] at this)
  exact ⟨v, nrmT r, bs', _, rfl, q, this⟩
structure RetP (s : St) (rs : List RRes) (Q : AV -> List Box -> Prop) : Prop where
 out : ∃ s', Weak s s' ∧ resK s' rs fun r b => Q r b ∨ Q (nrmT r) b
theorem resK_mono {s : St} {rs : List RRes} {Q Q' : AV -> List Box -> Prop} (hq : ∀ r b, Q r b -> Q' r b) (h : resK s rs Q) : resK s rs Q' := by
 have hV : ∀ {r : RRes} {K K' : AV -> Prop}, (∀ x, K x -> K' x) -> resV s r K -> resV s r K' := fun {r} {K K'} hk h => by
  cases r with
  | slot t => exact hk _ h
  | cell t agg n =>
   simp only [resV, loadK] at h ⊢; split at h
   ·split at h
    ·obtain ⟨h1, h2⟩ := req_iff.1 h; exact req_iff.2 ⟨h1, hk _ h2⟩
    ·split at h
     ·exact hk _ h
     ·exact h
   ·exact h
 have hVs : ∀ {rs : List RRes} {K K' : List AV -> Prop}, (∀ x, K x -> K' x) -> resVs s rs K -> resVs s rs K' := fun {rs} => by
  induction rs with
  | nil => exact fun hk h => hk _ h
  | cons r rs ih => exact fun hk h => hV (fun x hx => ih (fun xs hxs => hk _ hxs) hx) h
 unfold resK at h ⊢; split at h
 ·exact hq _ _ h
 ·exact hV (fun x hx => hq _ _ hx) h
 ·exact hVs (fun x hx => hq _ _ hx) h
theorem RetP.nrm {s : St} {rs : List RRes} {Q : AV -> List Box -> Prop} (h : resK s rs fun r b => fv (nrmT r) fun x => Q x b) : RetP s rs Q := ⟨s, Weak.refl s, resK_mono (fun r b q => .inr (by rwa [fv_eq] at q)) h⟩
def retP (rs : List RRes) (Q : AV -> List Box -> Prop) : AX -> St -> Prop
 | .normal, s => RetP s rs Q
 | .ret, s => RetP s rs Q
 | _, _ => False
theorem run_gp {P : Program} {fb : Bool} {c : RC} {vals : List AV} {bs : List Box} {rs : List RRes} {Q : AV -> List Box -> Prop} (h : (⟨params 0 vals, bs, bs.length⟩ : St).fo fb fun s => c.gp P fb s (retP rs Q)) : c.wp P ⟨params 0 vals, bs, bs.length⟩ fun x s => ∃ s', Weak s s' ∧ retQ rs (fun r b => Q r b ∨ Q (nrmT r) b) x s' := by
 rw [St.fo_eq] at h; refine RC.wp_mono (fun x s hx => ?_) (RC.gp_wp h)
 cases x with
 | normal => exact hx.out
 | ret => exact hx.out
 | exit id => exact hx.elim
inductive WkV : AV -> AV -> Prop
 | eq {x y : AV} (h : x = y) : WkV x y
 | claim {z : Nat} {l m : List AV} (h : Szs z l) (e : l = m) : WkV (.sl .full l) (.sl (.own z) m)
 | norm (x : AV) : WkV x x.norm
theorem Weak.ext {s t : St} (h : ∀ k, envGet t.env k = envGet s.env k) (hb : t.bs = s.bs) (hl : t.lo = s.lo) : Weak s t := fun E G a w hs => by
 obtain ⟨e, bs, lo⟩ := s; obtain ⟨e', bs', lo'⟩ := t; simp only at h hb hl; subst hb hl
 have hat : ∀ p, (⟨e', bs', lo'⟩ : St).at p = (⟨e, bs', lo'⟩ : St).at p := fun p => by
  cases p with
  | sl t => exact h t
  | bx b j => rfl
 exact ⟨G, hs.fr, hs.ok, hs.nt, fun p x hp => hs.val p x (by rw [← hat]; exact hp), fun b j x hp => hs.one b j x (by rw [← hat]; exact hp), hs.box, hs.bmem, hs.inj, fun p z l hp => hs.own p z l (by rw [← hat]; exact hp), hs.clinj, hs.clbox, hs.cllt, hs.lo, hs.len, hs.sig, hs.sp⟩
theorem Weak.slot {s : St} {k : Nat} {x y : AV} (h0 : envGet s.env k = some x) (h : WkV x y) : Weak s (s.put (some k) y) := by
 cases h with
 | eq h =>
  subst h; refine Weak.ext (fun j => ?_) rfl rfl; simp only [St.put, envGet_put]; split
  ·rename_i e; rw [e, h0]
  ·rfl
 | claim hz e => subst e; exact Weak.claim s k _ _ h0 hz.out
 | norm => exact Weak.norm s k x h0
theorem envGet_app : ∀ (pre r : List (Nat × AV)) (k : Nat), envGet (pre ++ r) k = match envGet pre k with | some x => some x | none => envGet r k
 | [], r, k => rfl
 | (t, x) :: pre, r, k => by
  simp only [List.cons_append, envGet]
  cases Nat.beq t k with
  | true => rfl
  | false => exact envGet_app pre r k
theorem Weak.at_ {pre r : List (Nat × AV)} {bs : List Box} {lo k : Nat} {x y : AV} (h : WkV x y) : Weak ⟨pre ++ (k, x) :: r, bs, lo⟩ ⟨pre ++ (k, y) :: r, bs, lo⟩ := by
 cases hp : envGet pre k with
 | some z =>
  refine Weak.ext (fun j => ?_) rfl rfl; simp only [envGet_app, envGet]
  by_cases e : k = j
  ·subst e; rw [hp]
  ·rw [beq_ne e]
 | none =>
  refine (Weak.slot (s := ⟨pre ++ (k, x) :: r, bs, lo⟩) (k := k) (x := x) (by simp only [envGet_app, hp, envGet, Nat.beq_refl]) h).trans (Weak.ext (fun j => ?_) rfl rfl)
  simp only [St.put, envGet_put, envGet_app, envGet]
  by_cases e : k = j
  ·subst e; rw [hp]; simp
  ·rw [if_neg (fun h => e h.symm), beq_ne e]
theorem Weak.drop_ {pre r : List (Nat × AV)} {bs : List Box} {lo k : Nat} {x : AV} (hp : ∀ t ∈ pre.map (·.1), t ≠ k) (hr : ∀ t ∈ r.map (·.1), t ≠ k) : Weak ⟨pre ++ (k, x) :: r, bs, lo⟩ ⟨pre ++ r, bs, lo⟩ := by
 have hno : ∀ l : List (Nat × AV), (∀ t ∈ l.map (·.1), t ≠ k) -> envGet l k = none := fun l => by
  induction l with
  | nil => exact fun _ => rfl
  | cons q l ih =>
   obtain ⟨t, y⟩ := q; intro h; simp only [envGet]; rw [beq_ne (h t (by simp))]
   exact ih fun t ht => h t (by simp only [List.map_cons, List.mem_cons]; exact .inr ht)
 refine (Weak.keep _ ((pre ++ r).map (·.1))).trans (Weak.ext (fun j => ?_) rfl rfl)
 have hk : ∀ (f : Nat -> Bool) (e : List (Nat × AV)), envGet (envKeep f e) j = if f j then envGet e j else none := fun f e => by
  induction e with
  | nil => simp [envKeep, envGet]
  | cons q e ih =>
   obtain ⟨t, y⟩ := q; simp only [envKeep]
   cases hf : f t with
   | true =>
    simp only [envGet]
    cases hb : Nat.beq t j with
    | true => have := Nat.eq_of_beq_eq_true hb; subst this; simp [hf]
    | false => simp only; exact ih
   | false =>
    simp only [envGet]
    cases hb : Nat.beq t j with
    | true => have := Nat.eq_of_beq_eq_true hb; subst this; rw [ih]; simp [hf]
    | false => simp only; exact ih
 simp only [St.keep, hk]
 have hmem : ∀ (l : List Nat), mem j l = true ↔ j ∈ l := fun l => by
  induction l with
  | nil => simp [mem]
  | cons y l ih =>
   simp only [mem]
   cases hb : Nat.beq y j with
   | true => have := Nat.eq_of_beq_eq_true hb; subst this; simp
   | false =>
    simp only [ih, List.mem_cons]; exact ⟨.inr, fun h => h.elim (fun e => by subst e; simp at hb) id⟩
 have hin : ∀ (l : List (Nat × AV)), j ∉ l.map (·.1) -> envGet l j = none := fun l => by
  induction l with
  | nil => exact fun _ => rfl
  | cons q l ih =>
   obtain ⟨t, y⟩ := q; intro h; simp only [List.map_cons, List.mem_cons, not_or] at h; simp only [envGet]; rw [beq_ne (fun e => h.1 e.symm)]; exact ih h.2
 by_cases hj : j ∈ (pre ++ r).map (·.1)
 ·rw [if_pos ((hmem _).2 hj)]; simp only [envGet_app, envGet]
  by_cases e : k = j
  ·subst e; rw [List.map_append, List.mem_append] at hj; rcases hj with hj | hj
   ·exact absurd rfl (hp _ hj)
   ·exact absurd rfl (hr _ hj)
  ·rw [beq_ne e]
 ·rw [if_neg (fun h => hj ((hmem _).1 h)), hin _ hj]
structure WkN (x y : AV) (K : Prop) : Prop where
 w : WkV x y
 k : K
theorem WkN.eq {x y : AV} {K : Prop} (h : x = y) (k : K) : WkN x y K := ⟨.eq h, k⟩
theorem WkN.int {i : IntKind} {x y : Int} {K : Prop} (h : x = y) (k : K) : WkN (.int i x) (.int i y) K := ⟨.eq (by rw [h]), k⟩
theorem WkN.bool {x y : Bool} {K : Prop} (h : x = y) (k : K) : WkN (.bool x) (.bool y) K := ⟨.eq (by rw [h]), k⟩
theorem WkN.norm {x y : AV} {K : Prop} (h : x.norm = y) (k : K) : WkN x y K := ⟨h ▸ .norm x, k⟩
theorem WkN.claim {z : Nat} {l m : List AV} {K : Prop} (h : Szs z l) (e : l = m) (k : K) : WkN (.sl .full l) (.sl (.own z) m) K := ⟨.claim h e, k⟩
def notIn (k : Nat) : List (Nat × AV) -> Bool
 | [] => true
 | (t, _) :: r => match Nat.beq t k with
  | true => false
  | false => notIn k r
def wkE : Nat -> List (Nat × AV) -> List (Nat × AV) -> List (Nat × AV) -> Prop
 | 0, _, _, _ => False
 | _ + 1, _, [], [] => True
 | n + 1, pre, (k, x) :: r, (k', y) :: r' => match Nat.beq k k' with
  | true => WkN x y (wkE n (pre ++ [(k', y)]) r r')
  | false => req (notIn k pre && notIn k r) (wkE n pre r ((k', y) :: r'))
 | n + 1, pre, (k, _) :: r, [] => req (notIn k pre && notIn k r) (wkE n pre r [])
 | _ + 1, _, [], _ :: _ => False
theorem notIn_out {k : Nat} : ∀ {l : List (Nat × AV)}, notIn k l = true -> ∀ t ∈ l.map (·.1), t ≠ k
 | [], _, _, h => by cases h
 | (u, _) :: r, h, t, ht => by
  simp only [notIn] at h; split at h
  ·cases h
  ·rename_i hb; simp only [List.map_cons, List.mem_cons] at ht; rcases ht with rfl | ht
   ·intro e; subst e; simp at hb
   ·exact notIn_out h t ht
theorem wkE_weak {bs : List Box} {lo : Nat} : ∀ {n : Nat} {pre e e' : List (Nat × AV)}, wkE n pre e e' -> Weak ⟨pre ++ e, bs, lo⟩ ⟨pre ++ e', bs, lo⟩
 | 0, _, _, _, h => h.elim
 | _ + 1, _, [], [], _ => Weak.refl _
 | n + 1, pre, (k, x) :: r, (k', y) :: r', h => by
  simp only [wkE] at h; split at h
  ·rename_i hb; have := Nat.eq_of_beq_eq_true hb; subst this; have := wkE_weak (bs := bs) (lo := lo) h.k; simp only [List.append_assoc, List.singleton_append] at this; exact (Weak.at_ h.w).trans this
  ·obtain ⟨h1, h2⟩ := req_iff.1 h; simp only [Bool.and_eq_true] at h1
   exact (Weak.drop_ (notIn_out h1.1) (notIn_out h1.2)).trans (wkE_weak h2)
 | n + 1, pre, (k, x) :: r, [], h => by
  simp only [wkE] at h; obtain ⟨h1, h2⟩ := req_iff.1 h; simp only [Bool.and_eq_true] at h1
  exact (Weak.drop_ (notIn_out h1.1) (notIn_out h1.2)).trans (wkE_weak h2)
 | _ + 1, _, [], _ :: _, h => h.elim
structure BxN (p K : Prop) : Prop where
 p : p
 k : K
def eqC : List AV -> List AV -> Prop -> Prop
 | [], [], K => K
 | x :: xs, y :: ys, K => BxN (x = y) (eqC xs ys K)
 | _, _, _ => False
theorem eqC_out : ∀ {xs ys : List AV} {K : Prop}, eqC xs ys K -> xs = ys ∧ K
 | [], [], _, h => ⟨rfl, h⟩
 | x :: xs, y :: ys, K, h => by
  obtain ⟨h1, h2⟩ := eqC_out h.k
  exact ⟨by rw [h.p, h1], h2⟩
 | [], _ :: _, _, h => h.elim
 | _ :: _, [], _, h => h.elim
def eqB : List Box -> List Box -> Prop -> Prop
 | [], [], K => K
 | .cells cs :: r, .cells ds :: r', K => eqC cs ds (eqB r r' K)
 | .dead :: r, .dead :: r', K => eqB r r' K
 | .loop x :: r, .loop y :: r', K => BxN (x = y) (eqB r r' K)
 | .row x :: r, .row y :: r', K => BxN (x = y) (eqB r r' K)
 | .mp x :: r, .mp y :: r', K => BxN (x = y) (eqB r r' K)
 | .mq x c :: r, .mq y d :: r', K => BxN (x = y) (BxN (c = d) (eqB r r' K))
 | .tab x :: r, .tab y :: r', K => BxN (x = y) (eqB r r' K)
 | _, _, _ => False
theorem eqB_out : ∀ {xs ys : List Box} {K : Prop}, eqB xs ys K -> xs = ys ∧ K
 | [], [], _, h => ⟨rfl, h⟩
 | .cells cs :: r, .cells ds :: r', K, h => by
  obtain ⟨h1, h2⟩ := eqC_out h; obtain ⟨h3, h4⟩ := eqB_out h2
  exact ⟨by rw [h1, h3], h4⟩
 | .dead :: r, .dead :: r', K, h => by
  obtain ⟨h3, h4⟩ := eqB_out (xs := r) (ys := r') h
  exact ⟨by rw [h3], h4⟩
 | .loop x :: r, .loop y :: r', K, h => by
  obtain ⟨h3, h4⟩ := eqB_out h.k
  exact ⟨by rw [h.p, h3], h4⟩
 | .row x :: r, .row y :: r', K, h => by
  obtain ⟨h3, h4⟩ := eqB_out h.k
  exact ⟨by rw [h.p, h3], h4⟩
 | .mp x :: r, .mp y :: r', K, h => by
  obtain ⟨h3, h4⟩ := eqB_out h.k
  exact ⟨by rw [h.p, h3], h4⟩
 | .mq x c :: r, .mq y d :: r', K, h => by
  obtain ⟨h3, h4⟩ := eqB_out h.k.k
  exact ⟨by rw [h.p, h.k.p, h3], h4⟩
 | .tab x :: r, .tab y :: r', K, h => by
  obtain ⟨h3, h4⟩ := eqB_out h.k
  exact ⟨by rw [h.p, h3], h4⟩
 | .cells _ :: _, .tab _ :: _, _, h => h.elim
 | .tab _ :: _, .cells _ :: _, _, h => h.elim
 | .dead :: _, .tab _ :: _, _, h => h.elim
 | .tab _ :: _, .dead :: _, _, h => h.elim
 | .loop _ :: _, .tab _ :: _, _, h => h.elim
 | .tab _ :: _, .loop _ :: _, _, h => h.elim
 | .row _ :: _, .tab _ :: _, _, h => h.elim
 | .tab _ :: _, .row _ :: _, _, h => h.elim
 | .mp _ :: _, .tab _ :: _, _, h => h.elim
 | .tab _ :: _, .mp _ :: _, _, h => h.elim
 | .mq _ _ :: _, .tab _ :: _, _, h => h.elim
 | .tab _ :: _, .mq _ _ :: _, _, h => h.elim
 | .tab _ :: _, [], _, h => h.elim
 | [], _ :: _, _, h => h.elim
 | .cells _ :: _, [], _, h => h.elim
 | .cells _ :: _, .mq _ _ :: _, _, h => h.elim
 | .mq _ _ :: _, .cells _ :: _, _, h => h.elim
 | .cells _ :: _, .dead :: _, _, h => h.elim
 | .cells _ :: _, .loop _ :: _, _, h => h.elim
 | .cells _ :: _, .row _ :: _, _, h => h.elim
 | .cells _ :: _, .mp _ :: _, _, h => h.elim
 | .dead :: _, [], _, h => h.elim
 | .dead :: _, .mq _ _ :: _, _, h => h.elim
 | .mq _ _ :: _, .dead :: _, _, h => h.elim
 | .dead :: _, .cells _ :: _, _, h => h.elim
 | .dead :: _, .loop _ :: _, _, h => h.elim
 | .dead :: _, .row _ :: _, _, h => h.elim
 | .dead :: _, .mp _ :: _, _, h => h.elim
 | .loop _ :: _, [], _, h => h.elim
 | .loop _ :: _, .mq _ _ :: _, _, h => h.elim
 | .mq _ _ :: _, .loop _ :: _, _, h => h.elim
 | .loop _ :: _, .cells _ :: _, _, h => h.elim
 | .loop _ :: _, .dead :: _, _, h => h.elim
 | .loop _ :: _, .row _ :: _, _, h => h.elim
 | .loop _ :: _, .mp _ :: _, _, h => h.elim
 | .row _ :: _, [], _, h => h.elim
 | .row _ :: _, .mq _ _ :: _, _, h => h.elim
 | .mq _ _ :: _, .row _ :: _, _, h => h.elim
 | .row _ :: _, .cells _ :: _, _, h => h.elim
 | .row _ :: _, .dead :: _, _, h => h.elim
 | .row _ :: _, .loop _ :: _, _, h => h.elim
 | .row _ :: _, .mp _ :: _, _, h => h.elim
 | .mp _ :: _, [], _, h => h.elim
 | .mq _ _ :: _, [], _, h => h.elim
 | .mp _ :: _, .mq _ _ :: _, _, h => h.elim
 | .mq _ _ :: _, .mp _ :: _, _, h => h.elim
 | .mp _ :: _, .cells _ :: _, _, h => h.elim
 | .mp _ :: _, .dead :: _, _, h => h.elim
 | .mp _ :: _, .loop _ :: _, _, h => h.elim
 | .mp _ :: _, .row _ :: _, _, h => h.elim
theorem EndN.at_ {s t : St} (h : fEnv true t.env fun e => fBs t.bs fun b => wkE 100 [] s.env e ∧ eqB s.bs b True) (hl : s.lo = t.lo) : EndN s t := by
 rw [fEnv_eq, fBs_eq] at h; obtain ⟨e, bs, lo⟩ := s; obtain ⟨e', bs', lo'⟩ := t; simp only at h hl; subst hl; obtain ⟨h2, _⟩ := eqB_out h.2; subst h2; exact ⟨wkE_weak h.1⟩
theorem EndN.atC (n : Nat) {s t : St} (h : fEnv true t.env fun e => fBs t.bs fun b => wkE 100 [] (s.keep (e.map (·.1))).env e ∧ eqB (s.bs.take n) b True) (hl : s.lo = t.lo) (hlo : Nat.ble s.lo n = true) (hn : Nat.ble n s.bs.length = true) (h1 : envLt n (s.keep (t.env.map (·.1))).env = true) (h2 : boxesLt n (s.bs.take n) = true) : EndN s t := by
 rw [fEnv_eq, fBs_eq] at h; refine ⟨(Weak.keep s (t.env.map (·.1))).trans ((Weak.cut (s.keep (t.env.map (·.1))) n (Nat.le_of_ble_eq_true hlo) (Nat.le_of_ble_eq_true hn) h1 h2).trans ?_)⟩; refine (EndN.at_ (s := ⟨(s.keep (t.env.map (·.1))).env, s.bs.take n, s.lo⟩) ?_ hl).out; rw [fEnv_eq, fBs_eq]; exact h
theorem EndN.atS {s t : St} (h : wkE 100 [] s.env t.env) (hb : s.bs = t.bs) (hl : s.lo = t.lo) : EndN s t := by
 obtain ⟨e, bs, lo⟩ := s; obtain ⟨e', bs', lo'⟩ := t; simp only at h hb hl; subst hb hl; exact ⟨wkE_weak h⟩
def St.sets (s : St) : List (Nat × AV) -> St
 | [] => s
 | (t, x) :: r => (s.put (some t) x).sets r
structure AsgP (bs : List Box) (n : Nat) (x : LB) (K : Prop) : Prop where
 h : boxLoop bs n = some x
 k : K
theorem LoopP.by {P : Program} {fb : Bool} {c : RC} {s : St} {Q : AX -> St -> Prop} {α : Type} (up : St -> α -> St) (inv : α -> Prop) (mu : α -> Nat) (a0 : α) (h0 : inv a0) (hw : EndN s (up s a0))
  (round : ∀ a, inv a -> (up s a).fo fb fun s1 => c.gp P fb s1 (thenQ (fun s' => ∃ a', (inv a' ∧ mu a' < mu a) ∧ EndN s' (up s a')) Q)) : LoopP P c s Q := by
 refine ⟨fun m s1 => ∃ a, m = mu a ∧ inv a ∧ s1 = up s a, mu a0, up s a0, hw.out, ⟨a0, rfl, h0, rfl⟩, ?_⟩; rintro m s1 ⟨a, rfl, ha, rfl⟩; have := round a ha; rw [St.fo_eq] at this; refine RC.wp_mono (fun x s' hx => ?_) (RC.gp_wp this)
 cases x with
 | normal =>
  obtain ⟨a', ⟨h1, h2⟩, h3⟩ := hx
  exact ⟨mu a', up s a', h2, h3.out, a', rfl, h1, rfl⟩
 | exit id => exact hx
 | ret => exact hx
theorem LoopP.count {P : Program} {fb : Bool} {c : RC} {s : St} {Q : AX -> St -> Prop} (n : Nat) (up : St -> Nat -> St) (inv : Nat -> Prop) (h0 : inv 0) (hw : EndN s (up s 0))
  (round : ∀ j, j < n -> inv j -> (up s j).fo fb fun s1 => c.gp P fb s1 (thenQ (fun s' => inv (j + 1) ∧ EndN s' (up s (j + 1))) Q))
  (done : inv n -> (up s n).fo fb fun s1 => c.gp P fb s1 (thenQ (fun _ => False) Q)) : LoopP P c s Q := by
 refine ⟨fun m s1 => ∃ j, m = n - j ∧ (j ≤ n ∧ inv j) ∧ s1 = up s j, n, up s 0, hw.out, ⟨0, by omega, ⟨Nat.zero_le _, h0⟩, rfl⟩, ?_⟩
 rintro m s1 ⟨j, rfl, ⟨hj, hi⟩, rfl⟩; rcases Nat.lt_or_ge j n with h | h
 ·have := round j h hi; rw [St.fo_eq] at this; refine RC.wp_mono (fun x s' hx => ?_) (RC.gp_wp this)
  cases x with
  | normal => exact ⟨n - (j + 1), up s (j + 1), by omega, hx.2.out, j + 1, rfl, ⟨by omega, hx.1⟩, rfl⟩
  | exit id => exact hx
  | ret => exact hx
 ·have e : j = n := by omega
  subst e; have := done hi; rw [St.fo_eq] at this; refine RC.wp_mono (fun x s' hx => ?_) (RC.gp_wp this)
  cases x with
  | normal => exact hx.elim
  | exit id => exact hx
  | ret => exact hx
end Go.AM
