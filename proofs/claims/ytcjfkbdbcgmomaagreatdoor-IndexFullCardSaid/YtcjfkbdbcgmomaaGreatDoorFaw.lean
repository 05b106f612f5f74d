/-
  Texts of this claim joined (wip/gen/bundle.py), those declarations only that are needed: IxM IxO IxP IxQ IxRb. By an AI agent.
-/
import Derived.Test.YtcjfkbdbcgmomaaGreatDoorFau
import Derived.Test.YtcjfkbdbcgmomaaGreatDoorFav
set_option linter.unusedSimpArgs false
set_option linter.unusedVariables false
namespace Go.CK
open Go.AM Go.RowKit Go.Proofs
theorem hp_below {w w' : World} (h : Below w.heap.size w w') : (Hp.of w).le (Hp.of w') := fun b o v hv => by
 have hlt := Hp.lt (Hp.le_refl _) hv; simp only [Hp.of, World.cell?] at hv ⊢; rw [h.block b hlt]; exact hv
theorem Fun.ofCallsT {P : Program} {f : FuncId} {vals : List AV} {t : ByteArray} (ht : t.size ≤ lim) (hf : vals.all AV.flat = true) (h : ∀ (w : World) (args : List Value), Tb w -> args.length = vals.length -> (∀ j (hj : j < vals.length) v, args[j]? = some v -> FV (Hp.of w) vals[j] v) -> Calls P f args.toArray w fun e w' => e = .returned (.string t) ∧ Below w.heap.size w w') : Fun P f vals (.str t) := by
 intro bs E G a0 w args lo hs hl hv; have hfl : ∀ j (hj : j < vals.length), (vals[j]).flat = true := fun j hj => List.all_eq_true.1 hf _ (List.getElem_mem hj); refine (h w args hs.fr.kn.tb hl (fun j hj v hjv => ((hv j hj v hjv).toFV (hfl j hj)).mono hs.ok)).mono ?_; rintro e w' ⟨rfl, hb⟩; have h0 := hs.reAct (callE G bs w 1) ⟨#[.string t], []⟩ (Fr.refl _ _ _ hs.fr.kn) rfl bs.length rfl (Nat.le_refl _) (fun _ _ => rfl) (fun B hB => .inl hB) rfl; have h1 := h0.grow (M' := G.M) (w' := w') ⟨hb.os, hb.tape, hb.output, hb.size, Hp.le_refl _, fun B hB _ => hb.block B hB, fun _ _ _ _ => rfl⟩ (Hp.le_trans hs.ok (hp_below hb)); refine ⟨_, _, _, _, rfl, ⟨rfl, rfl⟩, h1.put (k := 0) Nat.zero_lt_one (x := .str t) (.flat (.str t ht))⟩
def txtB (key : List Tm) : ByteArray := ⟨(txtL key).toArray⟩
theorem text_ok {key : List Tm} (hio : Tm.ios key) (hlen : (txtL key).length ≤ 100000000) : Fun Tryz.prog 47 [slA Tm.av key] (.str (txtB key)) := by
 refine Fun.ofCallsT (by simp [txtB, ByteArray.size, lim]; omega) rfl fun w args ht hl hv => ?_
 match args, hl with
 | [v], _ => exact text_w ht hio (hv 0 (by simp) v rfl) hlen
def tmA : Option Tm -> AV
 | some t => t.avw
 | none => .agg [.top, .top, .top, .top]
theorem plainTmA : Plain tmA 4 := by
 refine ⟨by decide, fun x => by cases x <;> rfl, fun x c h => ?_, fun x c h => ?_⟩
 ·cases x <;> (simp [tmA, Tm.avw, AV.cells] at h; rcases h with rfl | rfl | rfl | rfl <;> rfl)
 ·cases x <;> (simp [tmA, Tm.avw, AV.cells] at h; rcases h with rfl | rfl | rfl | rfl <;> rfl)
theorem tmA_some (l : List Tm) : (l.map some).map tmA = l.map Tm.av := by
 rw [List.map_map]; exact List.map_congr_left fun t _ => (Tm.av_w t).symm
set_option maxRecDepth 100000 in
theorem cloneT_ok {l : List Tm} (hl : l.length ≤ 4294967296) : AM.Sem Tryz.prog 150 [.sl .no (l.map Tm.av)] [] fun r bs' => ∃ k, l.length ≤ k ∧ r = .bsl 0 l.length k ∧ bs' = [rowF tmA 4 k (l.map some)] := by
 refine op_slices_Clone_api_Term_api_Term (by simp) ?_
 conv => whnf
 skip; refine NilN.no fun b hb => ?_
 conv => whnf
 repeat' ((refine gC ?_; refine CondN.any (fun hc => ?_) (fun hc => ?_)) <;> conv => whnf)
 ·have hl0 : l = [] := by simpa using hb hc
  subst hl0; exact RetP.toRow 2 rfl (RetP.slot ⟨0, Nat.le_refl _, rfl, rfl⟩)
 ·rw [← tmA_some]; refine AppN.nilRow (l' := l.map some) plainTmA (by rw [List.length_map]; exact hl) fun k hk => ?_
  conv => whnf
  skip; rw [List.length_map] at hk; exact RetP.slot ⟨k, hk, by simp [St.get, envGet], rfl⟩
theorem upd_id {α : Type} {l : List α} {j : Nat} {x : α} (hx : l[j]? = some x) : (l.map some)[j]? = some (some x) ∧ (l.map some).set j (some x) = l.map some := by
 have h1 : (l.map some)[j]? = some (some x) := by rw [List.getElem?_map, hx]; rfl
 refine ⟨h1, List.ext_getElem? fun i => ?_⟩
 by_cases e : j = i
 ·subst e; rw [List.getElem?_set_self (List.getElem?_eq_some_iff.1 h1).1, h1]
 ·rw [List.getElem?_set_ne e]
set_option maxRecDepth 100000 in
theorem copied_of {t : Tm} (ih : ∀ x ∈ t.args, Fun Tryz.prog 96 [x.avw] x.avw) : Fun Tryz.prog 96 [t.avw] t.avw := by
 refine Fun.of (Sem.assume fun hg0 _ => ?_) rfl rfl; have hg := (good_tm (hg0 t.avw (by simp) rfl)).2.1
 refine op_index_copied (by simp) ?_
 conv => whnf
 skip; refine CallN.at [] (cloneT_ok (l := t.args) (by omega)) rfl rfl ?_ oko ?_
 ·rintro r bs' ⟨k, hk, rfl, rfl⟩; exact ⟨rfl, rfl, oko⟩
 rintro r bs' ⟨k, hk, rfl, rfl⟩
 conv => whnf
 skip; refine LoopP.by (fb := true) (fun _ (j : Nat) => ⟨[(1, .ptr 0 0), (2, .ptr 1 0), (10, .bsl 2 t.args.length k), (11, .int .i64 (t.args.length : Int)), (12, .int .i64 (j : Int))], [.cells [.int .i64 t.kind, .int .i64 t.num, .str t.name, .bsl 2 t.args.length k], .cells [.int .i64 0, .int .i64 0, .str ⟨⟨[]⟩⟩, .sl .full []], rowF tmA 4 k (t.args.map some)], 0⟩) (fun j => j ≤ t.args.length) (fun j => t.args.length - j) 0 (Nat.zero_le _) ?_ ?_
 ·exact endz
 ·rintro j q1
  by_cases hj : j < t.args.length
  ·obtain ⟨x, hx⟩ : ∃ x, t.args[j]? = some x := ⟨_, List.getElem?_eq_getElem hj⟩; obtain ⟨u1, u2⟩ := upd_id hx; have hx1 := ih x (List.mem_of_getElem? hx)
   conv => whnf
   repeat' ((first | (refine gC ?_; (refine gD ?_; refine cI ?_)) | (refine gN ?_; refine nS ?_)) <;> conv => whnf)
   refine ElN.elem plainTmA rfl u1 ?_
   conv => whnf
   repeat' ((first | (refine gG ?_; refine CallP.fn (hx1) ?_) | (refine gN ?_; refine nS ?_)) <;> conv => whnf)
   refine EsN.elem plainTmA (fun x => by cases x <;> rfl) (x := some x) (y := some x) rfl u1 rfl ?_
   conv => whnf
   repeat' ((refine gW ?_; refine wI ?_) <;> conv => whnf)
   refine ⟨j + 1, ⟨hj, by omega⟩, ?_⟩
   rw [Int.toNat_natCast, u2]; refine EndN.lay [some 0, some 1, some 2] oko ?_
   conv => whnf
   exact endz
  ·obtain rfl : j = t.args.length := by omega
   conv => whnf
   repeat' ((refine gC ?_; (refine gD ?_; refine cJ ?_)) <;> conv => whnf)
   refine RetP.frozeBx plainTmA 1 3 (b := 2) (l := t.args.map some) rfl rfl rfl (by simp) ?_
   rw [List.take_of_length_le (by simp), tmA_some]
   conv => whnf
   conv => whnf
   repeat' (refine RetP.nrm ?_ <;> conv => whnf)
   rfl
theorem copied_ok (t : Tm) : Fun Tryz.prog 96 [t.avw] t.avw := by
 induction t using Tm.ind_all with
 | h k n s l ih => exact copied_of ih
set_option maxRecDepth 100000 in
theorem own_ok (i : It) : Fun Tryz.prog 45 [i.av] i.av := by
 have h : Fun Tryz.prog 96 [.agg [.int .i64 0, .int .i64 0, .str ⟨⟨[]⟩⟩, .sl .no (i.atom.args.map Tm.av)]] (.agg [.int .i64 0, .int .i64 0, .str ⟨⟨[]⟩⟩, .sl .no (i.atom.args.map Tm.av)]) := copied_ok (.mk 0 0 ⟨⟨[]⟩⟩ i.atom.args); refine Fun.of (op_index_own (by simp) ?_) rfl rfl
 conv => whnf
 conv => whnf
 repeat' ((first | (refine gF ?_; refine CallN.fn (h) ?_) | refine RetP.nrm ?_) <;> conv => whnf)
 rfl
end Go.CK
namespace Go.CK
open Go.AM Go.Proofs
def Ac.has (c : Ac) (s : ByteArray) (args : List Tm) : Bool := decide (c.name = s) && decide (c.arity = args.length)
def tm0 : Tm := .mk 0 0 ⟨#[]⟩ []
def keyOf (c : Ac) (args : List Tm) : List Tm := c.positions.map fun p => args.getD p.toNat tm0
def posIn (c : Ac) (args : List Tm) : Prop := ∀ p ∈ c.positions, 0 ≤ p ∧ p < args.length
theorem keyOf_ios {c : Ac} {args : List Tm} (h : Tm.ios args) (hp : posIn c args) : Tm.ios (keyOf c args) := Tm.ios_mem.2 fun t ht => by
 obtain ⟨p, hpm, rfl⟩ := List.mem_map.1 ht; obtain ⟨h0, h1⟩ := hp p hpm; have hlt : p.toNat < args.length := by omega
 refine Tm.ios_mem.1 h _ ?_; simp [List.getD, List.getElem?_eq_getElem hlt]
set_option maxRecDepth 100000 in
theorem ixKeys_ok {bs : List Box} {p : Nat} {s : ByteArray} {args : List Tm} : AM.Sem Tryz.prog 53 [.ptr p 0, .agg [.str s, .sl .no (args.map Tm.av)]] bs fun r bs' => r = .fn (.func 108) [] [.ptr bs.length 0, .ptr (bs.length + 1) 0] ∧ bs' = bs ++ [.cells [.ptr p 0]] ++ [.cells [.str s, .sl .no (args.map Tm.av)]] := by
 refine opS_p_index_Index_keys (by simp) ?_
 conv => whnf
 try dsimp only
 skip; have e : (bs ++ [Box.cells [AV.ptr p 0]]).length = bs.length + 1 := by simp
 rw [e]; exact ⟨_, Weak.refl _, .inl ⟨rfl, rfl⟩⟩
structure KeyInv (bs0 : List Box) (n q1 q2 p : Nat) (acc : List Ac) (s : ByteArray) (args : List Tm) (J : Nat -> List Box -> Prop) : Prop where
 x : ∀ j bs, J j bs -> bs[q1]? = some (.cells [.ptr p 0])
 a : ∀ j bs, J j bs -> bs[q2]? = some (.cells [.str s, .sl .no (args.map Tm.av)])
 p : ∀ j bs, J j bs -> ∃ I T, bs[p]? = some (.cells [slA Ac.av acc, I, T])
 snoc : ∀ j bs b, J j bs -> J j (bs ++ [b])
 skip : ∀ j bs c, J j bs -> acc[j]? = some c -> c.has s args = false -> J (j + 1) bs
 act : ∀ j bs c, J j bs -> acc[j]? = some c -> c.has s args = true -> SemY Tryz.prog n [.int .i64 (j : Int), .str (txtB (keyOf c args))] bs fun r bs' => r = .bool true ∧ J (j + 1) bs'
set_option maxRecDepth 100000 in
theorem ixKeys1_ok {bs : List Box} {n q1 q2 p : Nat} {acc : List Ac} {s : ByteArray} {args : List Tm} {J : Nat -> List Box -> Prop} (hJ : KeyInv bs n q1 q2 p acc s args J) (h0 : J 0 bs) (hio : Tm.ios args) (hpos : ∀ c ∈ acc, c.has s args = true -> posIn c args) (hlen : ∀ c ∈ acc, c.has s args = true -> (txtL (keyOf c args)).length ≤ 100000000) (hacc : acc.length ≤ 1000000) (hpl : ∀ c ∈ acc, c.positions.length ≤ 1000000) :
  AM.Sem Tryz.prog 108 [.yl n, .ptr q1 0, .ptr q2 0] bs fun r bs' => r = .tup [] ∧ J acc.length bs' := by
 refine opS_p_index_Index_keys_1 (by simp) ?_
 conv => whnf
 try dsimp only
 skip; refine BxAt.of (cs := [.ptr p 0]) (by simp [boxCells, hJ.x _ _ h0, Box.cs?]) ?_
 conv => whnf
 try dsimp only
 skip; obtain ⟨I0, T0, hp0⟩ := hJ.p _ _ h0; refine BxAt.of (cs := [slA Ac.av acc, I0, T0]) (by simp [boxCells, hp0, Box.cs?]) ?_
 conv => whnf
 try dsimp only
 repeat' ((refine gL ?_; refine .map ?_) <;> (conv => whnf; try dsimp only))
 refine LoopP.by (fb := false) (fun _ (a : Nat × List Box) => ⟨[(0, .yl n), (2, .ptr q2 0), (12, .sl .no (acc.map Ac.av)), (13, .int .i64 (acc.length : Int)), (14, .int .i64 (a.1 : Int))], a.2, bs.length⟩) (fun a => a.1 ≤ acc.length ∧ J a.1 a.2) (fun a => acc.length - a.1) (0, bs) ⟨Nat.zero_le _, h0⟩ ?_ ?_
 ·refine EndN.atS ?_ rfl rfl
  conv => whnf
  repeat' ((first | (refine gV ?_; first | refine vE ?_ | refine vI ?_) | exact True.intro) <;> conv => whnf)
 ·rintro ⟨j, b2⟩ ⟨q1', hj⟩; dsimp only at q1' hj
  by_cases hlt : j < acc.length
  ·obtain ⟨c, hc⟩ : ∃ c, acc[j]? = some c := ⟨_, List.getElem?_eq_getElem hlt⟩; have hcm := List.mem_of_getElem? hc; have hq2 := hJ.a _ _ hj; have hB3 := hJ.snoc j b2 (.cells [AV.str c.name, AV.int IntKind.i64 c.arity, AV.sl Cap.no (List.map intA c.positions)]) hj; have hQc : boxCells (b2 ++ [Box.cells [AV.str c.name, AV.int IntKind.i64 c.arity, AV.sl Cap.no (List.map intA c.positions)]]) b2.length = some [AV.str c.name, AV.int IntKind.i64 c.arity, AV.sl Cap.no (List.map intA c.positions)] := by simp [boxCells, Box.cs?]
   conv => whnf
   try dsimp only
   repeat' ((first | (refine gC ?_; (refine gD ?_; refine cI ?_)) | (refine gI ?_; (refine gM ?_; refine iE ?_)) | (refine gB ?_; refine .last ?_) | refine BxSet.last ?_) <;> (conv => whnf; try dsimp only))
   obtain ⟨B3, hB⟩ : ∃ B3, B3 = b2 ++ [Box.cells [AV.str c.name, AV.int IntKind.i64 c.arity, AV.sl Cap.no (List.map intA c.positions)]] := ⟨_, rfl⟩; rw [← hB] at hB3 hQc ⊢; clear hB; have hQ2 : boxCells B3 q2 = some [AV.str s, .sl .no (args.map Tm.av)] := by simp [boxCells, hJ.a _ _ hB3, Box.cs?]
   by_cases hn : c.name = s
   ·by_cases ha : c.arity = args.length
    ·have hh : c.has s args = true := by simp [Ac.has, hn, ha]
     have hpc := hpos c hcm hh; have hcl := hpl c hcm
     conv => whnf
     try dsimp only
     repeat' ((first | (refine gC ?_; first | refine .not ?_ | (refine gD ?_; refine cI ?_)) | (refine gL ?_; refine .map ?_) | (refine gB ?_; refine .of (by assumption) ?_)) <;> (conv => whnf; try dsimp only))
     refine LoopP.by (fb := false) (fun _ (i : Nat) => ⟨[(0, .yl n), (2, .ptr q2 0), (4, .int .i64 (j : Int)), (6, .sl (.own 4) (((c.positions.take i).map fun p => args.getD p.toNat tm0).map Tm.av)), (12, .sl .no (acc.map Ac.av)), (13, .int .i64 (acc.length : Int)), (14, .int .i64 (j : Int)), (33, .sl .no (c.positions.map intA)), (34, .int .i64 (c.positions.length : Int)), (35, .int .i64 (i : Int))], B3, bs.length⟩) (fun i => i ≤ c.positions.length) (fun i => c.positions.length - i) 0 (Nat.zero_le _) ?_ ?_
     ·rw [List.take_zero]; refine EndN.atS ?_ rfl rfl
      conv => whnf
      repeat' ((first | (refine gV ?_; first | refine vE ?_ | refine vI ?_ | ((refine gK ?_; refine vD ?_ ?_); (focus (simp [AV.norm, AV.norm1, ]; done)))) | exact True.intro) <;> conv => whnf)
     ·intro i hi
      by_cases hil : i < c.positions.length
      ·obtain ⟨y, hy⟩ : ∃ y, c.positions[i]? = some y := ⟨_, List.getElem?_eq_getElem hil⟩; obtain ⟨hy0, hy1⟩ := hpc y (List.mem_of_getElem? hy); obtain ⟨x, hx⟩ : ∃ x, args[y.toNat]? = some x := ⟨_, List.getElem?_eq_getElem (by omega)⟩
       have htk : ((c.positions.take (i + 1)).map fun p => args.getD p.toNat tm0).map Tm.av = ((c.positions.take i).map fun p => args.getD p.toNat tm0).map Tm.av ++ [.agg [.int .i64 x.kind, .int .i64 x.num, .str x.name, .sl .no (x.args.map Tm.av)]] := by
        rw [List.take_add_one, hy]; simp [hx, Tm.av_w, Tm.avw]
       conv => whnf
       try dsimp only
       repeat' ((first | (refine gC ?_; (refine gD ?_; refine cI ?_)) | (refine gW ?_; refine wI ?_) | (refine gN ?_; refine nS ?_) | (refine gI ?_; first | (refine gT ?_; refine iB ?_) | (refine gM ?_; refine iE ?_)) | (refine gB ?_; refine .of (by assumption) ?_)) <;> (conv => whnf; try dsimp only))
       refine ⟨i + 1, ⟨hil, by omega⟩, ?_⟩
       rw [htk]; refine EndN.atS ?_ rfl rfl
       conv => whnf
       repeat' ((first | (refine gV ?_; first | refine vE ?_ | refine vI ?_) | exact True.intro) <;> conv => whnf)
      ·obtain rfl : i = c.positions.length := by omega
       rw [List.take_length]; have htx := text_ok (keyOf_ios hio hpc) (hlen c hcm hh)
       conv => whnf
       try dsimp only
       repeat' ((first | (refine gF ?_; refine CallN.fn (htx) ?_) | (refine gC ?_; (refine gD ?_; refine cJ ?_))) <;> (conv => whnf; try dsimp only))
       refine YieldN.of (hJ.act _ _ _ hB3 hc hh) ?_; rintro r b4 ⟨rfl, hB4⟩
       conv => whnf
       try dsimp only
       repeat' ((first | (refine gC ?_; first | refine cY ?_ | refine .not ?_) | (refine gW ?_; refine wI ?_)) <;> (conv => whnf; try dsimp only))
       refine ⟨(j + 1, b4), ⟨⟨hlt, hB4⟩, by dsimp only; omega⟩, ?_⟩
       refine EndN.atS ?_ rfl rfl
       conv => whnf
       repeat' ((first | (refine gV ?_; first | refine vE ?_ | refine vI ?_) | exact True.intro) <;> conv => whnf)
    ·have hh : c.has s args = false := by simp [Ac.has, hn, ha]
     conv => whnf
     try dsimp only
     repeat' ((first | (refine gC ?_; first | refine .not ?_ | (refine gD ?_; first | refine cI ?_ | refine cJ ?_)) | (refine gW ?_; refine wI ?_) | (refine gL ?_; refine .map ?_) | (refine gB ?_; refine .of (by assumption) ?_)) <;> (conv => whnf; try dsimp only))
     refine ⟨(j + 1, B3), ⟨⟨hlt, hJ.skip _ _ _ hB3 hc hh⟩, by dsimp only; omega⟩, ?_⟩
     refine EndN.atS ?_ rfl rfl
     conv => whnf
     repeat' ((first | (refine gV ?_; first | refine vE ?_ | refine vI ?_) | exact True.intro) <;> conv => whnf)
   ·have hh : c.has s args = false := by simp [Ac.has, hn]
    conv => whnf
    try dsimp only
    repeat' ((first | (refine gC ?_; first | refine cY ?_ | refine .not ?_ | (refine gD ?_; refine cJ ?_)) | (refine gW ?_; refine wI ?_) | (refine gB ?_; refine .of (by assumption) ?_)) <;> (conv => whnf; try dsimp only))
    refine ⟨(j + 1, B3), ⟨⟨hlt, hJ.skip _ _ _ hB3 hc hh⟩, by dsimp only; omega⟩, ?_⟩
    refine EndN.atS ?_ rfl rfl
    conv => whnf
    repeat' ((first | (refine gV ?_; first | refine vE ?_ | refine vI ?_) | exact True.intro) <;> conv => whnf)
  ·obtain rfl : j = acc.length := by omega
   conv => whnf
   try dsimp only
   repeat' ((refine gC ?_; (refine gD ?_; refine cJ ?_)) <;> (conv => whnf; try dsimp only))
   exact ⟨_, Weak.refl _, .inl ⟨rfl, hj⟩⟩
end Go.CK
namespace Go.CK
open Go.AM Go.Proofs
def sel (c : Ac) (k : ByteArray) (its : List It) : List Int := (its.filter fun i => c.has i.atom.name i.atom.args && decide (txtB (keyOf c i.atom.args) = k)).map It.id
structure TabIs (c : Ac) (its : List It) (l : List TR) : Prop where
 ids : ∀ r ∈ l, r.ids = sel c r.key its ∧ r.ids ≠ []
 all : ∀ k, sel c k its ≠ [] -> ∃ r ∈ l, r.key = k
theorem TabIs.nil (c : Ac) : TabIs c [] [] := ⟨fun _ h => (by cases h), fun k h => absurd rfl h⟩
def insIt (l : List It) (i : It) : List It := l.filter (fun x => decide (x.id < i.id)) ++ i :: l.filter (fun x => !decide (x.id < i.id))
def Asc (l : List It) : Prop := l.Pairwise fun a b => a.id < b.id
theorem filter_map_id {l : List It} {q : It -> Bool} {p : Int -> Bool} : ((l.filter fun x => p x.id).filter q).map It.id = ((l.filter q).map It.id).filter p := by
 rw [List.filter_map, List.filter_filter, List.filter_filter]; congr 1; refine List.filter_congr fun x _ => ?_; simp [Bool.and_comm]
theorem sel_ins (c : Ac) (k : ByteArray) (l : List It) (i : It) : sel c k (insIt l i) = (sel c k l).filter (fun n => decide (n < i.id)) ++ ((if c.has i.atom.name i.atom.args && decide (txtB (keyOf c i.atom.args) = k) then [i.id] else []) ++ (sel c k l).filter (fun n => !decide (n < i.id))) := by
 unfold sel insIt; rw [List.filter_append, List.map_append, List.filter_cons]; have h1 := filter_map_id (l := l) (q := fun i => c.has i.atom.name i.atom.args && decide (txtB (keyOf c i.atom.args) = k)) (p := fun n => decide (n < i.id)); have h2 := filter_map_id (l := l) (q := fun i => c.has i.atom.name i.atom.args && decide (txtB (keyOf c i.atom.args) = k)) (p := fun n => !decide (n < i.id)); rw [h1]; congr 1; split
 ·rw [List.map_cons, h2]; rfl
 ·rw [h2]; rfl
theorem sel_len (c : Ac) (k : ByteArray) (l : List It) : (sel c k l).length ≤ l.length := by
 unfold sel; rw [List.length_map]; exact List.length_filter_le _ _
theorem asc_split {l : List Int} (h : l.Pairwise (· < ·)) (n : Int) : l.filter (fun x => decide (x < n)) = l.take (l.countP fun x => decide (x < n)) ∧ l.filter (fun x => !decide (x < n)) = l.drop (l.countP fun x => decide (x < n)) := by
 induction l with
 | nil => exact ⟨rfl, rfl⟩
 | cons a l ih =>
  rw [List.pairwise_cons] at h; obtain ⟨i1, i2⟩ := ih h.2
  by_cases hx : a < n
  ·simp only [List.filter_cons, List.countP_cons, hx, decide_true, if_true, Bool.not_true, Bool.false_eq_true, if_false, List.take_succ_cons, List.drop_succ_cons]; exact ⟨by rw [i1], i2⟩
  ·have h0 : ∀ x ∈ l, ¬ x < n := fun x hm => by have := h.1 x hm; omega
   have hc : l.countP (fun x => decide (x < n)) = 0 := List.countP_eq_zero.2 fun x hm => by simpa using h0 x hm
   have hf : l.filter (fun x => decide (x < n)) = [] := List.filter_eq_nil_iff.2 fun x hm => by simpa using h0 x hm
   have hg : l.filter (fun x => !decide (x < n)) = l := List.filter_eq_self.2 fun x hm => by simpa using h0 x hm
   simp only [List.filter_cons, List.countP_cons, hx, decide_false, Bool.false_eq_true, if_false, Bool.not_false, if_true, hc, hf, hg]; exact ⟨rfl, rfl⟩
theorem asc_join {l : List Int} (h : l.Pairwise (· < ·)) (n : Int) : l.filter (fun x => decide (x < n)) ++ l.filter (fun x => !decide (x < n)) = l := by
 obtain ⟨h1, h2⟩ := asc_split h n; rw [h1, h2, List.take_append_drop]
theorem sel_asc {c : Ac} {k : ByteArray} {l : List It} (h : Asc l) : (sel c k l).Pairwise (· < ·) := by
 unfold sel; rw [List.pairwise_map]; exact List.Pairwise.filter _ h
theorem sel_insI {c : Ac} {l : List It} (h : Asc l) {i : It} (hh : c.has i.atom.name i.atom.args = true) : sel c (txtB (keyOf c i.atom.args)) (insIt l i) = insI (sel c (txtB (keyOf c i.atom.args)) l) ((sel c (txtB (keyOf c i.atom.args)) l).countP fun x => decide (x < i.id)) i.id := by
 obtain ⟨h1, h2⟩ := asc_split (sel_asc (c := c) (k := txtB (keyOf c i.atom.args)) h) i.id; rw [sel_ins, if_pos (by simp [hh]), insI, h1, h2]; rfl
theorem sel_same {c : Ac} {k : ByteArray} {l : List It} (h : Asc l) {i : It} (hh : (c.has i.atom.name i.atom.args && decide (txtB (keyOf c i.atom.args) = k)) = false) : sel c k (insIt l i) = sel c k l := by
 rw [sel_ins, if_neg (by rw [hh]; exact Bool.false_ne_true), List.nil_append, asc_join (sel_asc h)]
theorem TabIs.skip {c : Ac} {its : List It} {l : List TR} (h : TabIs c its l) (ha : Asc its) {i : It} (hh : c.has i.atom.name i.atom.args = false) : TabIs c (insIt its i) l := by
 have e : ∀ k, sel c k (insIt its i) = sel c k its := fun k => sel_same ha (by simp [hh])
 exact ⟨fun r hr => by rw [e]; exact h.ids r hr, fun k hk => h.all k (by rw [← e]; exact hk)⟩
theorem tbPut_has {l : List TR} {r : TR} {n : Nat} : ∃ q ∈ tbPut l r n, q.key = r.key := by
 induction l with
 | nil => exact ⟨_, List.mem_singleton.2 rfl, rfl⟩
 | cons a l ih =>
  rw [tbPut]; split
  ·exact ⟨_, List.mem_cons_self .., rfl⟩
  ·obtain ⟨q, h1, h2⟩ := ih; exact ⟨q, List.mem_cons_of_mem _ h1, h2⟩
theorem tbPut_old {l : List TR} {r q : TR} {n : Nat} (h : q ∈ l) (hk : q.key ≠ r.key) : q ∈ tbPut l r n := by
 induction l with
 | nil => cases h
 | cons a l ih =>
  rw [tbPut]; rcases List.mem_cons.1 h with rfl | h
  ·rw [if_neg hk]; exact List.mem_cons_self ..
  ·split
   ·exact List.mem_cons_of_mem _ h
   ·exact List.mem_cons_of_mem _ (ih h)
theorem TabIs.put {c : Ac} {its its' : List It} {l : List TR} {r : TR} {n : Nat} (h : TabIs c its l) (hn : (l.map TR.key).Nodup) (hk : ∀ k, k ≠ r.key -> sel c k its' = sel c k its) (hr : r.ids = sel c r.key its') (hne : r.ids ≠ []) : TabIs c its' (tbPut l r n) := by
 refine ⟨fun q hq => ?_, fun k hk' => ?_⟩
 ·rcases tbPut_mem hq hn with ⟨h1, h2⟩ | ⟨m, rfl⟩
  ·rw [hk _ h2]; exact h.ids q h1
  ·exact ⟨hr, hne⟩
 ·by_cases e : k = r.key
  ·obtain ⟨q, h1, h2⟩ := tbPut_has (l := l) (r := r) (n := n); exact ⟨q, h1, h2.trans e.symm⟩
  ·rw [hk k e] at hk'; obtain ⟨q, h1, h2⟩ := h.all k hk'; exact ⟨q, tbPut_old h1 (by rw [h2]; exact e), h2⟩
theorem insIt_mem {l : List It} {i x : It} : x ∈ insIt l i ↔ x = i ∨ x ∈ l := by
 simp only [insIt, List.mem_append, List.mem_filter, List.mem_cons]; constructor
 ·rintro (h | h | h)
  ·exact .inr h.1
  ·exact .inl h
  ·exact .inr h.1
 ·rintro (h | h)
  ·exact .inr (.inl h)
  ·by_cases e : x.id < i.id
   ·exact .inl ⟨h, by simpa using e⟩
   ·exact .inr (.inr ⟨h, by simpa using e⟩)
theorem insIt_asc {l : List It} (h : Asc l) {i : It} (hi : ∀ x ∈ l, x.id ≠ i.id) : Asc (insIt l i) := by
 unfold insIt Asc; rw [List.pairwise_append, List.pairwise_cons]; refine ⟨List.Pairwise.filter _ h, ⟨fun x hx => ?_, List.Pairwise.filter _ h⟩, fun a ha b hb => ?_⟩
 ·obtain ⟨h1, h2⟩ := List.mem_filter.1 hx; have := hi x h1; have h3 : ¬ x.id < i.id := by simpa using h2
  omega
 ·obtain ⟨h1, h2⟩ := List.mem_filter.1 ha; have h2 : a.id < i.id := by simpa using h2
  rcases List.mem_cons.1 hb with rfl | hb
  ·exact h2
  ·obtain ⟨h3, h4⟩ := List.mem_filter.1 hb; have h4 : ¬ b.id < i.id := by simpa using h4
   omega
theorem insIt_len (l : List It) (i : It) : (insIt l i).length = l.length + 1 := by
 have : (l.filter fun x => decide (x.id < i.id)).length + (l.filter fun x => !decide (x.id < i.id)).length = l.length := by
  induction l with
  | nil => rfl
  | cons a l ih =>
   by_cases h : a.id < i.id
   ·simp only [List.filter_cons, h, decide_true, if_true, Bool.not_true, Bool.false_eq_true, if_false, List.length_cons]; omega
   ·simp only [List.filter_cons, h, decide_false, Bool.false_eq_true, if_false, Bool.not_false, if_true, List.length_cons]; omega
 simp only [insIt, List.length_append, List.length_cons]; omega
def asgS (x : LB) (n : Nat) (K : St -> Prop) : AX -> St -> Prop
 | .normal, s => AsgP s.bs n x ((⟨s.env, s.bs.set n .dead, s.lo⟩ : St).fo false K)
 | _, _ => False
structure RndN (s : St) (n : Nat) (x : LB) (R : AV -> List Box -> Prop) : Prop where
 out : ∃ s3, Weak s s3 ∧ R (.bool true) (s3.bs.set n (.loop x))
def rndS (n : Nat) (x : LB) (R : AV -> List Box -> Prop) : AX -> St -> Prop
 | .normal, s => RndN s n x R
 | _, _ => False
theorem RangeP.run {P : Program} {g : Opd} {ps : List Nat} {a b : RC} {s : St} {Q : AX -> St -> Prop} (s0 : St) {gf : FuncId} {lb : List AV} (hw : EndN s s0) (hg : s0.ev g = .fn (.func gf) [] lb) (hbd : hasBody P gf = true)
  (h : ∀ x : LB, (∀ y bs R, boxLoop bs s0.bs.length = some x -> y.length = ps.length -> ((⟨putAll (deownEnv s0.env) ps y, bs, bs.length⟩ : St).fo false fun s1 => a.gp P false s1 (asgS x s0.bs.length fun s2 => b.gp P false s2 (rndS s0.bs.length x R))) -> SemY P s0.bs.length y bs R) ->
   ∃ QQ, AM.Sem P gf ((.yl s0.bs.length :: lb).map AV.norm) (s0.bs ++ [.loop x]) QQ ∧ ∀ r bs', QQ r bs' -> boxLoop bs' s0.bs.length = some x ∧ (⟨s0.env, bs'.set s0.bs.length .dead, s0.lo⟩ : St).fo false fun s' => Q .normal s') : RangeP P g ps a b s Q := by
 refine ⟨s0, hw.out, ?_⟩; rw [hg]; refine ⟨hbd, fun x hx => ?_⟩
 obtain ⟨QQ, h1, h2⟩ := h x fun y bs R hb hl hr => hx y bs R hb hl (by
  rw [St.fo_eq] at hr; refine RC.wp_mono (fun e s1 h1 => ?_) (RC.gp_wp hr)
  cases e with
  | normal =>
   refine ⟨h1.h, ?_⟩; have h3 := h1.k; rw [St.fo_eq] at h3; refine RC.wp_mono (fun e s3 h4 => ?_) (RC.gp_wp h3)
   cases e with
   | normal => exact h4.out
   | ret => exact h4.elim
   | exit id => exact h4.elim
  | ret => exact h1.elim
  | exit id => exact h1.elim)
 refine ⟨QQ, h1, fun r bs' hr => ?_⟩; obtain ⟨h3, h4⟩ := h2 r bs' hr; rw [St.fo_eq] at h4; exact .inl ⟨h3, h4⟩
end Go.CK
namespace Go.CK
open Go.AM Go.Proofs
structure IdxG (bs : List Box) (p : Nat) (acc : List Ac) (its : List It) (f : Nat -> List It) (bi ki t kt : Nat) (cs : List Nat) : Prop where
 str : bs[p]? = some (.cells [slA Ac.av acc, .bsl bi its.length ki, .bsl t cs.length kt])
 items : bs[bi]? = some (rowF It.av 3 ki its)
 le : its.length ≤ ki
 tabs : bs[t]? = some (rowF AV.mpt 1 kt cs)
 tle : cs.length ≤ kt
 len : cs.length = acc.length
 nod : cs.Nodup
 tab : ∀ k c a, cs[k]? = some c -> acc[k]? = some a -> ∃ x l, bs[c]? = some (.tab x) ∧ TbOk x l ∧ TabIs a (f k) l
theorem IdxG.lt {bs : List Box} {p : Nat} {acc : List Ac} {its : List It} {f : Nat -> List It} {bi ki t kt : Nat} {cs : List Nat} (h : IdxG bs p acc its f bi ki t kt cs) : p < bs.length ∧ bi < bs.length ∧ t < bs.length ∧ ∀ c ∈ cs, c < bs.length := by
 refine ⟨(List.getElem?_eq_some_iff.1 h.str).1, (List.getElem?_eq_some_iff.1 h.items).1, (List.getElem?_eq_some_iff.1 h.tabs).1, fun c hc => ?_⟩; obtain ⟨k, hk⟩ := List.getElem?_of_mem hc; have hlt := (List.getElem?_eq_some_iff.1 hk).1; obtain ⟨x, l, h1, _⟩ := h.tab k c _ hk (List.getElem?_eq_getElem (by rw [← h.len]; exact hlt))
 exact (List.getElem?_eq_some_iff.1 h1).1
theorem IdxG.mono {bs b2 : List Box} {p : Nat} {acc : List Ac} {its : List It} {f : Nat -> List It} {bi ki t kt : Nat} {cs : List Nat} (h : IdxG bs p acc its f bi ki t kt cs) (hb : ∀ b, b = p ∨ b = bi ∨ b = t ∨ b ∈ cs -> b2[b]? = bs[b]?) : IdxG b2 p acc its f bi ki t kt cs :=
 ⟨by rw [hb _ (.inl rfl)]; exact h.str, by rw [hb _ (.inr (.inl rfl))]; exact h.items, h.le, by rw [hb _ (.inr (.inr (.inl rfl)))]; exact h.tabs, h.tle, h.len, h.nod, fun k c a hc ha => by rw [hb _ (.inr (.inr (.inr (List.mem_of_getElem? hc))))]; exact h.tab k c a hc ha⟩
theorem IdxG.snoc {bs : List Box} {p : Nat} {acc : List Ac} {its : List It} {f : Nat -> List It} {bi ki t kt : Nat} {cs : List Nat} (h : IdxG bs p acc its f bi ki t kt cs) (x : Box) : IdxG (bs ++ [x]) p acc its f bi ki t kt cs :=
 h.mono fun b hb => by
  obtain ⟨h1, h2, h3, h4⟩ := h.lt; refine List.getElem?_append_left ?_; rcases hb with rfl | rfl | rfl | hb
  ·exact h1
  ·exact h2
  ·exact h3
  ·exact h4 _ hb
theorem IdxG.ne {bs : List Box} {p : Nat} {acc : List Ac} {its : List It} {f : Nat -> List It} {bi ki t kt : Nat} {cs : List Nat} (h : IdxG bs p acc its f bi ki t kt cs) {c : Nat} (hc : c ∈ cs) : c ≠ p ∧ c ≠ bi ∧ c ≠ t := by
 obtain ⟨k, hk⟩ := List.getElem?_of_mem hc; have hlt := (List.getElem?_eq_some_iff.1 hk).1; obtain ⟨x, l, h1, _⟩ := h.tab k c _ hk (List.getElem?_eq_getElem (by rw [← h.len]; exact hlt))
 refine ⟨fun e => ?_, fun e => ?_, fun e => ?_⟩
 ·rw [e, h.str] at h1; cases h1
 ·rw [e, h.items] at h1; cases h1
 ·rw [e, h.tabs] at h1; cases h1
theorem IdxG.setTab {bs : List Box} {p : Nat} {acc : List Ac} {its : List It} {f g : Nat -> List It} {bi ki t kt : Nat} {cs : List Nat} (h : IdxG bs p acc its f bi ki t kt cs) {j c : Nat} {a : Ac} (hc : cs[j]? = some c) (ha : acc[j]? = some a) {x : TB} {l : List TR} (hx : TbOk x l) (ht : TabIs a (g j) l) (hg : ∀ k, k ≠ j -> g k = f k) : IdxG (bs.set c (.tab x)) p acc its g bi ki t kt cs := by
 have hcm := List.mem_of_getElem? hc; obtain ⟨n1, n2, n3⟩ := h.ne hcm; have hlt := h.lt.2.2.2 c hcm; refine ⟨by rw [List.getElem?_set_ne n1]; exact h.str, by rw [List.getElem?_set_ne n2]; exact h.items, h.le, by rw [List.getElem?_set_ne n3]; exact h.tabs, h.tle, h.len, h.nod, fun k d a' hd ha' => ?_⟩
 by_cases e : k = j
 ·subst e; rw [hc] at hd; rw [ha] at ha'; cases hd; cases ha'; exact ⟨x, l, by rw [List.getElem?_set_self hlt], hx, ht⟩
 ·have hne : c ≠ d := fun e2 => by
   subst e2; exact e ((List.getElem?_inj (List.getElem?_eq_some_iff.1 hd).1 h.nod).1 (hd.trans hc.symm))
  rw [List.getElem?_set_ne hne, hg k e]; exact h.tab k d a' hd ha'
theorem cellsD_tab {B : List Box} {c : Nat} {y x : TB} (hb : B[c]? = some (.tab y)) {b : Nat} : cellsD (B.set c (.tab x)) b = cellsD B b := by
 simp only [cellsD, boxCells_mo (y := .tab x) hb rfl rfl]
theorem IdxG.cong {bs : List Box} {p : Nat} {acc : List Ac} {its : List It} {f g : Nat -> List It} {bi ki t kt : Nat} {cs : List Nat} (h : IdxG bs p acc its f bi ki t kt cs) (hg : ∀ k, k < cs.length -> f k = g k) : IdxG bs p acc its g bi ki t kt cs :=
 ⟨h.str, h.items, h.le, h.tabs, h.tle, h.len, h.nod, fun k c a hc ha => by rw [← hg k (List.getElem?_eq_some_iff.1 hc).1]; exact h.tab k c a hc ha⟩
set_option maxRecDepth 100000 in
theorem bsNil_ok (id : Int) : Fun Tryz.prog 105 [.sl .no [], .int .i64 id] (.tup [.int .i64 0, .bool false]) := by
 refine Fun.of (op_slices_BinarySearch_int_int (by simp) ?_) rfl rfl
 conv => whnf
 conv => whnf
 repeat' ((refine gL ?_; refine .nil ?_) <;> conv => whnf)
 refine LoopP.count (fb := true) 0 (fun st_ v => st_) (fun v => True) trivial ?_ (fun v hv _ => by omega) (fun _ => ?_)
 ·exact endz
 ·conv => whnf
  repeat' ((first | (refine gC ?_; (refine gD ?_; refine cJ ?_)) | refine RetP.nrm ?_) <;> conv => whnf)
  all_goals rfl
structure EntOk (acc : List Ac) (i : It) : Prop where
 io : Tm.ios i.atom.args
 pos : ∀ c ∈ acc, c.has i.atom.name i.atom.args = true -> posIn c i.atom.args
 len : ∀ c ∈ acc, c.has i.atom.name i.atom.args = true -> (txtL (keyOf c i.atom.args)).length ≤ 100000000
set_option maxRecDepth 100000 in
set_option maxHeartbeats 1000000 in
theorem ixEnter_ok {bs : List Box} {p : Nat} {acc : List Ac} {its : List It} {f : Nat -> List It} {bi ki t kt : Nat} {cs : List Nat} {i : It} (h : IdxG bs p acc its f bi ki t kt cs) (hf : ∀ k, Asc (f k) ∧ (f k).length ≤ 100000) (he : EntOk acc i) (hacc : acc.length ≤ 1000000) (hpl : ∀ c ∈ acc, c.positions.length ≤ 1000000) :
  AM.Sem Tryz.prog 51 [.ptr p 0, i.av] bs fun r bs' => r = .tup [] ∧ IdxG bs' p acc its (fun k => insIt (f k) i) bi ki t kt cs ∧ bs.length ≤ bs'.length ∧ ∀ b, b < bs.length -> b ∉ cs -> bs'[b]? = bs[b]? := by
 refine opS_p_index_Index_enter (by simp) ?_
 conv => whnf
 try dsimp only
 repeat' ((refine gB ?_; first | refine .last ?_ | refine .last2 ?_) <;> (conv => whnf; try dsimp only))
 refine CallN.raw ixKeys_ok ?_; rintro r b4 ⟨rfl, rfl⟩
 conv => whnf
 try dsimp only
 skip; obtain ⟨B4, hB4⟩ : ∃ B4, B4 = bs ++ [Box.cells [AV.ptr p 0]] ++ [Box.cells [AV.int IntKind.i64 i.id, AV.str i.atom.name, AV.sl Cap.no (List.map Tm.av i.atom.args)]] ++ [Box.cells [AV.ptr p 0]] ++ [Box.cells [AV.str i.atom.name, AV.sl Cap.no (List.map Tm.av i.atom.args)]] := ⟨_, rfl⟩; have hl4 : B4.length = bs.length + 4 := by rw [hB4]; simp
 have e0 : B4[bs.length]? = some (.cells [.ptr p 0]) := by rw [hB4]; simp
 have e1 : B4[bs.length + 1]? = some (.cells [AV.int IntKind.i64 i.id, AV.str i.atom.name, AV.sl Cap.no (List.map Tm.av i.atom.args)]) := by rw [hB4]; simp [List.getElem?_append]
 have e2 : B4[bs.length + 2]? = some (.cells [.ptr p 0]) := by rw [hB4]; simp [List.getElem?_append]
 have e3 : B4[bs.length + 3]? = some (.cells [AV.str i.atom.name, AV.sl Cap.no (List.map Tm.av i.atom.args)]) := by rw [hB4]; simp [List.getElem?_append]
 have hold : ∀ b, b < bs.length -> B4[b]? = bs[b]? := fun b hb => by
  rw [hB4, List.append_assoc, List.append_assoc, List.append_assoc, List.getElem?_append_left hb]
 have hI : IdxG B4 p acc its f bi ki t kt cs := by rw [hB4]; exact (((h.snoc _).snoc _).snoc _).snoc _
 rw [← hB4]; simp only [List.length_append, List.length_cons, List.length_nil, Nat.zero_add, Nat.add_assoc, Nat.reduceAdd]; clear hB4; refine RangeP.run (gf := 108) (lb := [.ptr (bs.length + 2) 0, .ptr (bs.length + 3) 0]) ⟨[(2, .ptr bs.length 0), (3, .ptr (bs.length + 1) 0), (12, .fn (.func 108) [] [.ptr (bs.length + 2) 0, .ptr (bs.length + 3) 0])], B4, bs.length⟩ ⟨Weak.refl _⟩ rfl (by kernel_rfl) fun x hx => ?_
 rw [hl4] at hx ⊢; obtain ⟨J, hJ⟩ : ∃ J : Nat -> List Box -> Prop, J = fun j b => IdxG b p acc its (fun k => if k < j then insIt (f k) i else f k) bi ki t kt cs ∧ b[bs.length]? = some (.cells [.ptr p 0]) ∧ b[bs.length + 1]? = some (.cells [AV.int IntKind.i64 i.id, AV.str i.atom.name, AV.sl Cap.no (List.map Tm.av i.atom.args)]) ∧ b[bs.length + 2]? = some (.cells [.ptr p 0]) ∧ b[bs.length + 3]? = some (.cells [AV.str i.atom.name, AV.sl Cap.no (List.map Tm.av i.atom.args)]) ∧ b[bs.length + 4]? = some (.loop x) ∧ ∀ k, k < bs.length -> k ∉ cs -> b[k]? = bs[k]? := ⟨_, rfl⟩
 have hK : KeyInv (B4 ++ [.loop x]) (bs.length + 4) (bs.length + 2) (bs.length + 3) p acc i.atom.name i.atom.args J := by
  refine ⟨fun j b hj => ?_, fun j b hj => ?_, fun j b hj => ?_, fun j b y hj => ?_, fun j b c hj hc hh => ?_, fun j b c hj hc hh => ?_⟩
  ·rw [hJ] at hj; exact hj.2.2.2.1
  ·rw [hJ] at hj; exact hj.2.2.2.2.1
  ·rw [hJ] at hj; exact ⟨_, _, hj.1.str⟩
  ·rw [hJ] at hj ⊢; obtain ⟨a1, a2, a3, a4, a5, a6, a7⟩ := hj; have hlt := (List.getElem?_eq_some_iff.1 a6).1; refine ⟨a1.snoc y, ?_, ?_, ?_, ?_, ?_, fun k hk hkc => ?_⟩
   all_goals rw [List.getElem?_append_left (by omega)]
   all_goals first | assumption | exact a7 k hk hkc
  ·rw [hJ] at hj ⊢; obtain ⟨a1, a2⟩ := hj; refine ⟨⟨a1.str, a1.items, a1.le, a1.tabs, a1.tle, a1.len, a1.nod, fun k d a hd ha => ?_⟩, a2⟩; obtain ⟨y, l, h1, h2, h3⟩ := a1.tab k d a hd ha; refine ⟨y, l, h1, h2, ?_⟩
   by_cases e : k = j
   ·subst e; rw [hc] at ha; cases ha; rw [if_neg (Nat.lt_irrefl _)] at h3; rw [if_pos (Nat.lt_succ_self _)]; exact h3.skip (hf k).1 hh
   ·by_cases e2 : k < j
    ·rw [if_pos e2] at h3; rw [if_pos (by omega)]; exact h3
    ·rw [if_neg e2] at h3; rw [if_neg (by omega)]; exact h3
  ·refine hx _ _ _ ?_ rfl ?_
   ·rw [hJ] at hj; simp [boxLoop, hj.2.2.2.2.2.1, Box.lb?]
   rw [hJ] at hj; obtain ⟨a1, a2, a3, a4, a5, a6, a7⟩ := hj; have hL := (List.getElem?_eq_some_iff.1 a6).1; obtain ⟨hp1, hp2, hp3, hp4⟩ := h.lt
   conv => whnf
   try dsimp only
   skip; refine AsgP.mk (by simp [boxLoop, a6, Box.lb?]) ?_
   obtain ⟨B5, hB5⟩ : ∃ B5, B5 = b.set (bs.length + 4) Box.dead := ⟨_, rfl⟩; have k5 : ∀ k, k ≠ bs.length + 4 -> B5[k]? = b[k]? := fun k hk => by rw [hB5, List.getElem?_set_ne (Ne.symm hk)]
   have l5 : B5.length = b.length := by rw [hB5, List.length_set]
   have g1 : IdxG B5 p acc its (fun k => if k < j then insIt (f k) i else f k) bi ki t kt cs := a1.mono fun k hk => k5 k (by
    rcases hk with rfl | rfl | rfl | hk
    ·omega
    ·omega
    ·omega
    ·have := hp4 k hk; omega)
   have b2 : boxCells B5 bs.length = some [.ptr p 0] := by simp [boxCells, k5 _ (show bs.length ≠ bs.length + 4 by omega), a2, Box.cs?]
   have b3 : boxCells B5 (bs.length + 1) = some [AV.int IntKind.i64 i.id, AV.str i.atom.name, AV.sl Cap.no (List.map Tm.av i.atom.args)] := by simp [boxCells, k5 _ (show bs.length + 1 ≠ bs.length + 4 by omega), a3, Box.cs?]
   have b4 : boxCells B5 p = some [slA Ac.av acc, .bsl bi its.length ki, .bsl t cs.length kt] := by simp [boxCells, g1.str, Box.cs?]
   have hjl : j < cs.length := by rw [h.len]; exact (List.getElem?_eq_some_iff.1 hc).1
   rw [← hB5]; obtain ⟨cj, hcj⟩ : ∃ cj, cs[j]? = some cj := ⟨_, List.getElem?_eq_getElem hjl⟩; obtain ⟨y, l, y1, y2, y3⟩ := g1.tab j cj c hcj hc
   conv => whnf
   try dsimp only
   repeat' ((first | (refine gN ?_; refine nS ?_) | (refine gB ?_; refine .of (by assumption) ?_)) <;> (conv => whnf; try dsimp only))
   refine ElN.one (fun _ => ⟨rfl, rfl⟩) (l := cs) (x := cj) g1.tabs (by simpa using hcj) ?_
   have fin : ∀ (row t1 : Box) (x2 : TB) (l2 : List TR), TbOk x2 l2 -> TabIs c (insIt (f j) i) l2 -> J (j + 1) ((((B5 ++ [row]).set cj t1).set cj (.tab x2)).set (bs.length + 4) (.loop x)) := fun row t1 x2 l2 q1 q2 => by
    have hcm := List.mem_of_getElem? hcj; have hcl := hp4 cj hcm; rw [List.set_set, hJ]
    have old : ∀ k, k < B5.length -> k ≠ cj -> k ≠ bs.length + 4 -> (((B5 ++ [row]).set cj (.tab x2)).set (bs.length + 4) (.loop x))[k]? = b[k]? := fun k h1 h2 h3 => by
     rw [List.getElem?_set_ne (Ne.symm h3), List.getElem?_set_ne (Ne.symm h2), List.getElem?_append_left h1, k5 k h3]
    have g2 : IdxG (((B5 ++ [row]).set cj (.tab x2)).set (bs.length + 4) (.loop x)) p acc its (fun k => if k < j + 1 then insIt (f k) i else f k) bi ki t kt cs := by
     refine ((g1.snoc row).setTab hcj hc q1 (g := fun k => if k < j + 1 then insIt (f k) i else f k) (by simpa using q2) fun k hk => ?_).mono fun k hk => ?_
     ·by_cases e : k < j
      ·rw [if_pos e, if_pos (by omega)]
      ·rw [if_neg e, if_neg (by omega)]
     ·refine List.getElem?_set_ne ?_; rcases hk with rfl | rfl | rfl | hk
      ·omega
      ·omega
      ·omega
      ·have := hp4 k hk; omega
    refine ⟨g2, ?_, ?_, ?_, ?_, ?_, fun k hk hkc => ?_⟩
    ·rw [old _ (by omega) (by omega) (by omega)]; exact a2
    ·rw [old _ (by omega) (by omega) (by omega)]; exact a3
    ·rw [old _ (by omega) (by omega) (by omega)]; exact a4
    ·rw [old _ (by omega) (by omega) (by omega)]; exact a5
    ·rw [List.getElem?_set_self (by simp; omega)]
    ·rw [old k (by omega) (fun e => hkc (e ▸ hcm)) (by omega)]; exact a7 k hk hkc
   conv => whnf
   try dsimp only
   skip; have y3 : TabIs c (f j) l := by have := y3; rwa [if_neg (Nat.lt_irrefl _)] at this
   refine ⟨⟨cj, y, l, txtB (keyOf c i.atom.args), rfl, y1, y2, fun r hr hkr => ?_, fun hno => ?_⟩⟩
   ·have hids := (y3.ids r hr).1; have hasc : r.ids.Pairwise (· < ·) := by rw [hids]; exact sel_asc (hf j).1
    have hrl : r.ids.length ≤ 100000 := by rw [hids]; exact Nat.le_trans (sel_len _ _ _) (hf j).2
    have hcnt := List.countP_le_length (p := fun x => decide (x < i.id)) (l := r.ids)
    conv => whnf
    try dsimp only
    repeat' ((refine gB ?_; refine .of (by assumption) ?_) <;> (conv => whnf; try dsimp only))
    refine CallN.raw (tabSearch (id := i.id) y1 y2 hr (hasc.imp fun h => Int.le_of_lt h) (by omega)) ?_
    rintro v b7 ⟨rfl, rfl⟩
    conv => whnf
    try dsimp only
    repeat' ((first | (refine gN ?_; refine nS ?_) | (refine gB ?_; refine .of (by assumption) ?_)) <;> (conv => whnf; try dsimp only))
    refine ElN.one (fun _ => ⟨rfl, rfl⟩) (l := cs) (x := cj) g1.tabs (by simpa using hcj) ?_
    conv => whnf
    try dsimp only
    repeat' ((refine gB ?_; refine .of (by assumption) ?_) <;> (conv => whnf; try dsimp only))
    refine BsrN.one plainI (fun _ => ⟨rfl, rfl⟩) (x := i.id) rfl ?_
    conv => whnf
    try dsimp only
    repeat' ((refine gPr ?_; refine pT ?_) <;> (conv => whnf; try dsimp only))
    have hcb := (List.getElem?_eq_some_iff.1 y1).1; refine CallN.raw (tabInsert (b := cj) (vb := b7.length) (x := y) (l := l) (r := r) (id := i.id) (by rw [List.getElem?_append_left hcb]; exact y1) y2 hr (by simp; rfl) hcnt (by omega)) ?_
    rintro v b8 ⟨r', x', rfl, hk', hids', hout, rfl⟩; have hcb2 : (b7 ++ [rowF (AV.int IntKind.i64) 1 1 [i.id]])[cj]? = some (.tab y) := by rw [List.getElem?_append_left hcb]; exact y1
    conv => whnf
    refine ⟨.inr ?_, ?_⟩
    ·conv => whnf
     repeat' (first | exact True.intro | refine And.intro (cellsD_tab hcb2) ?_)
    conv => whnf
    try dsimp only
    skip; refine ⟨⟨cj, x', l, r', by rw [hk', hkr]; rfl, by rw [List.getElem?_set_self (by simp; omega)], hout, fun x2 hx2 => ?_⟩⟩
    conv => whnf
    try dsimp only
    skip; refine ⟨_, Weak.refl _, rfl, fin _ _ _ _ hx2 ?_⟩; have hsel := sel_insI (c := c) (hf j).1 hh; have hrid : r'.ids = sel c r'.key (insIt (f j) i) := by rw [hids', hids, hk', hkr, hsel]
    refine y3.put y2.nodK (fun k hk => sel_same (hf j).1 ?_) hrid ?_
    ·rw [hk', hkr] at hk; simp [Ne.symm hk]
    ·rw [hids']; simp [insI]
   ·have hse : sel c (txtB (keyOf c i.atom.args)) (f j) = [] := by
     cases hs : sel c (txtB (keyOf c i.atom.args)) (f j) with
     | nil => rfl
     | cons a q =>
      obtain ⟨r, hr1, hr2⟩ := y3.all (txtB (keyOf c i.atom.args)) (by rw [hs]; simp)
      exact absurd hr2 (hno r hr1)
    have hbn := bsNil_ok i.id
    conv => whnf
    try dsimp only
    repeat' ((first | (refine gF ?_; refine CallN.fn (hbn) ?_) | (refine gN ?_; refine nS ?_) | (refine gB ?_; refine .of (by assumption) ?_)) <;> (conv => whnf; try dsimp only))
    refine ElN.one (fun _ => ⟨rfl, rfl⟩) (l := cs) (x := cj) g1.tabs (by simpa using hcj) ?_
    conv => whnf
    try dsimp only
    repeat' ((refine gB ?_; refine .of (by assumption) ?_) <;> (conv => whnf; try dsimp only))
    refine BsrN.one plainI (fun _ => ⟨rfl, rfl⟩) (x := i.id) rfl ?_
    conv => whnf
    try dsimp only
    repeat' ((refine gPr ?_; refine pT ?_) <;> (conv => whnf; try dsimp only))
    have hcb := (List.getElem?_eq_some_iff.1 y1).1; refine CallN.raw (tabInsertNil (txtB (keyOf c i.atom.args)) (b := cj) (vb := B5.length) (x := y) (l := l) (id := i.id) (by rw [List.getElem?_append_left hcb]; exact y1) y2 (by simp; rfl)) ?_
    rintro v b8 ⟨r', x', rfl, hk', hids', hout, rfl⟩; have hcb2 : (B5 ++ [rowF (AV.int IntKind.i64) 1 1 [i.id]])[cj]? = some (.tab y) := by rw [List.getElem?_append_left hcb]; exact y1
    conv => whnf
    refine ⟨.inr ?_, ?_⟩
    ·conv => whnf
     repeat' (first | exact True.intro | refine And.intro (cellsD_tab hcb2) ?_)
    conv => whnf
    try dsimp only
    skip; refine ⟨⟨cj, x', l, r', by rw [hk']; rfl, by rw [List.getElem?_set_self (by simp; omega)], hout, fun x2 hx2 => ?_⟩⟩
    conv => whnf
    try dsimp only
    skip; refine ⟨_, Weak.refl _, rfl, fin _ _ _ _ hx2 ?_⟩; have hsel := sel_insI (c := c) (hf j).1 hh; have hrid : r'.ids = sel c r'.key (insIt (f j) i) := by rw [hids', hk', hsel, hse]; rfl
    refine y3.put y2.nodK (fun k hk => sel_same (hf j).1 ?_) hrid ?_
    ·rw [hk'] at hk; simp [Ne.symm hk]
    ·rw [hids']; simp
 refine ⟨_, ixKeys1_ok hK ?_ he.io he.pos he.len hacc hpl, ?_⟩
 ·rw [hJ]; refine ⟨?_, ?_, ?_, ?_, ?_, ?_, fun k hk hkc => ?_⟩
  ·simpa using hI.snoc _
  all_goals first | (rw [List.getElem?_append_left (by show _ < B4.length; omega)]; first | assumption | exact hold k hk) | (rw [← hl4]; simp)
 ·rintro r b5 ⟨rfl, hj⟩; rw [hJ] at hj; obtain ⟨a1, a2, a3, a4, a5, a6, a7⟩ := hj; refine ⟨by simp [boxLoop, a6, Box.lb?], ?_⟩
  conv => whnf
  try dsimp only
  skip; have hL := (List.getElem?_eq_some_iff.1 a6).1; obtain ⟨hp1, hp2, hp3, hp4⟩ := h.lt; refine ⟨_, Weak.refl _, .inl ⟨rfl, (a1.mono fun k hk => ?_).cong fun k hk => ?_, by rw [List.length_set]; omega, fun k hk hkc => by rw [List.getElem?_set_ne (by omega)]; exact a7 k hk hkc⟩⟩
  ·refine List.getElem?_set_ne ?_; rcases hk with rfl | rfl | rfl | hk
   ·omega
   ·omega
   ·omega
   ·have := hp4 k hk; omega
  ·rw [if_pos (by rw [← h.len]; exact hk)]
end Go.CK
namespace Go.CK
open Go.AM Go.Proofs
structure IdxT (bs : List Box) (p : Nat) (acc : List Ac) (its : List It) (T : Nat -> List TR -> Prop) (bi ki t kt : Nat) (cs : List Nat) : Prop where
 str : bs[p]? = some (.cells [slA Ac.av acc, .bsl bi its.length ki, .bsl t cs.length kt])
 items : bs[bi]? = some (rowF It.av 3 ki its)
 le : its.length ≤ ki
 tabs : bs[t]? = some (rowF AV.mpt 1 kt cs)
 tle : cs.length ≤ kt
 len : cs.length = acc.length
 nod : cs.Nodup
 tab : ∀ k c, cs[k]? = some c -> ∃ x l, bs[c]? = some (.tab x) ∧ TbOk x l ∧ T k l
section
variable {bs : List Box} {p : Nat} {acc : List Ac} {its : List It} {T : Nat -> List TR -> Prop} {f : Nat -> List It} {bi ki t kt : Nat} {cs : List Nat}
theorem IdxT.nilG (h : IdxT bs p acc its T bi ki t kt cs) (hT : ∀ k l, k < cs.length -> T k l -> l = []) : IdxG bs p acc its (fun _ => []) bi ki t kt cs :=
 ⟨h.str, h.items, h.le, h.tabs, h.tle, h.len, h.nod, fun k c a hc ha => by
  obtain ⟨x, l, h1, h2, h3⟩ := h.tab k c hc; have := hT k l (List.getElem?_eq_some_iff.1 hc).1 h3; subst this; exact ⟨x, [], h1, h2, .nil a⟩⟩
theorem IdxT.ne (h : IdxT bs p acc its T bi ki t kt cs) {c : Nat} (hc : c ∈ cs) : c ≠ p ∧ c ≠ bi ∧ c ≠ t := by
 obtain ⟨k, hk⟩ := List.getElem?_of_mem hc; obtain ⟨x, l, h1, _⟩ := h.tab k c hk; refine ⟨fun e => ?_, fun e => ?_, fun e => ?_⟩
 ·rw [e, h.str] at h1; cases h1
 ·rw [e, h.items] at h1; cases h1
 ·rw [e, h.tabs] at h1; cases h1
theorem IdxT.setTab {T' : Nat -> List TR -> Prop} (h : IdxT bs p acc its T bi ki t kt cs) {j c : Nat} (hc : cs[j]? = some c) {x : TB} {l : List TR} (hx : TbOk x l) (ht : T' j l) (hg : ∀ k l, k ≠ j -> T k l -> T' k l) : IdxT (bs.set c (.tab x)) p acc its T' bi ki t kt cs := by
 have hcm := List.mem_of_getElem? hc; obtain ⟨n1, n2, n3⟩ := h.ne hcm; obtain ⟨x0, l0, h0, _⟩ := h.tab j c hc; have hlt := (List.getElem?_eq_some_iff.1 h0).1; refine ⟨by rw [List.getElem?_set_ne n1]; exact h.str, by rw [List.getElem?_set_ne n2]; exact h.items, h.le, by rw [List.getElem?_set_ne n3]; exact h.tabs, h.tle, h.len, h.nod, fun k d hd => ?_⟩
 by_cases e : k = j
 ·subst e; rw [hc] at hd; cases hd; exact ⟨x, l, by rw [List.getElem?_set_self hlt], hx, ht⟩
 ·have hne : c ≠ d := fun e2 => by
   subst e2; exact e ((List.getElem?_inj (List.getElem?_eq_some_iff.1 hd).1 h.nod).1 (hd.trans hc.symm))
  rw [List.getElem?_set_ne hne]; obtain ⟨y, m, h1, h2, h3⟩ := h.tab k d hd; exact ⟨y, m, h1, h2, hg k m e h3⟩
end
theorem plainIt : Plain It.av 3 := ⟨by decide, fun _ => rfl, fun x c h => by
 simp [It.av, AV.cells] at h; rcases h with rfl | rfl | rfl <;> rfl, fun x c h => by
 simp [It.av, AV.cells] at h; rcases h with rfl | rfl | rfl <;> rfl⟩
theorem insIt_last {l : List It} {i : It} (h : ∀ x ∈ l, x.id < i.id) : insIt l i = l ++ [i] := by
 have h1 : l.filter (fun x => decide (x.id < i.id)) = l := List.filter_eq_self.2 fun x hx => by simpa using h x hx
 have h2 : l.filter (fun x => !decide (x.id < i.id)) = [] := List.filter_eq_nil_iff.2 fun x hx => by simpa using h x hx
 rw [insIt, h1, h2]
theorem asc_take {l : List It} (h : Asc l) {j : Nat} {i : It} (hi : l[j]? = some i) : insIt (l.take j) i = l.take (j + 1) := by
 rw [List.take_add_one, hi]; refine insIt_last fun x hx => ?_; have hj := (List.getElem?_eq_some_iff.1 hi).1; obtain ⟨k, hk⟩ := List.getElem?_of_mem hx; rw [List.getElem?_take] at hk; split at hk
 ·rename_i hkj; have h1 := List.pairwise_iff_getElem.1 h k j (by omega) hj hkj
  rw [(List.getElem?_eq_some_iff.1 hi).2, (List.getElem?_eq_some_iff.1 hk).2] at h1; exact h1
 ·cases hk
structure AllOk (acc : List Ac) (its : List It) : Prop where
 asc : Asc its
 few : its.length ≤ 100000
 ent : ∀ i ∈ its, EntOk acc i
 accs : acc.length ≤ 1000000
 poss : ∀ c ∈ acc, c.positions.length ≤ 1000000
set_option maxRecDepth 100000 in
set_option maxHeartbeats 1000000 in
theorem ixRebuild_ok {bs : List Box} {p : Nat} {acc : List Ac} {its : List It} {bi ki t kt : Nat} {cs : List Nat} (h : IdxT bs p acc its (fun _ _ => True) bi ki t kt cs) (ha : AllOk acc its) :
  AM.Sem Tryz.prog 46 [.ptr p 0] bs fun r bs' => r = .tup [] ∧ IdxG bs' p acc its (fun _ => its) bi ki t kt cs ∧ bs.length ≤ bs'.length ∧ ∀ b, b < bs.length -> b ∉ cs -> bs'[b]? = bs[b]? := by
 have hcl := h.len; have hacc := ha.accs; have hfew := ha.few; have hb0 : boxCells bs p = some [slA Ac.av acc, .bsl bi its.length ki, .bsl t cs.length kt] := by simp [boxCells, h.str, Box.cs?]
 refine opS_p_index_Index_rebuild (by simp) ?_
 conv => whnf
 try dsimp only
 repeat' ((refine gB ?_; refine .of (by assumption) ?_) <;> (conv => whnf; try dsimp only))
 refine LoopP.by (fb := false) (fun st_ (a : Nat × List Box) => ⟨[(0, .ptr p 0), (9, .bsl t cs.length kt), (10, .int .i64 cs.length), (11, .int .i64 (a.1 : Int))], a.2, bs.length⟩) (fun a => a.1 ≤ cs.length ∧ IdxT a.2 p acc its (fun k l => k < a.1 -> l = []) bi ki t kt cs ∧ bs.length = a.2.length ∧ ∀ b, b ∉ cs -> a.2[b]? = bs[b]?) (fun a => cs.length - a.1) (0, bs) ⟨Nat.zero_le _, ⟨h.str, h.items, h.le, h.tabs, h.tle, h.len, h.nod, fun k c hc => by
   obtain ⟨x, l, h1, h2, _⟩ := h.tab k c hc; exact ⟨x, l, h1, h2, fun hk => absurd hk (Nat.not_lt_zero _)⟩⟩, rfl, fun _ _ => rfl⟩ ?_ ?_
 ·refine EndN.atS ?_ rfl rfl
  conv => whnf
  repeat' ((first | (refine gV ?_; first | refine vE ?_ | refine vI ?_) | exact True.intro) <;> conv => whnf)
 ·rintro ⟨j, b2⟩ ⟨q1, q2, q3, q4⟩; dsimp only at q1 q2 q3 q4
  by_cases hj : j < cs.length
  ·obtain ⟨c, hc⟩ : ∃ c, cs[j]? = some c := ⟨_, List.getElem?_eq_getElem hj⟩; have hcm := List.mem_of_getElem? hc; obtain ⟨x, l, hx1, hx2, _⟩ := q2.tab j c hc
   conv => whnf
   try dsimp only
   repeat' ((first | (refine gC ?_; (refine gD ?_; refine cI ?_)) | (refine gN ?_; refine nS ?_)) <;> (conv => whnf; try dsimp only))
   refine ElN.one (fun _ => ⟨rfl, rfl⟩) (l := cs) (x := c) q2.tabs (by simpa using hc) ?_
   conv => whnf
   try dsimp only
   skip; refine ⟨⟨c, x, rfl, hx1, hx2.jB, fun x' hx' => ?_⟩⟩
   conv => whnf
   try dsimp only
   repeat' ((refine gW ?_; refine wI ?_) <;> (conv => whnf; try dsimp only))
   refine ⟨(j + 1, b2.set c (.tab x')), ⟨⟨hj, q2.setTab hc hx' (fun _ => rfl) fun k l hk hl hk2 => hl (by omega), by simpa using q3, fun b hb => by
    rw [List.getElem?_set_ne (fun e => hb (by rw [← e]; exact hcm))]; exact q4 b hb⟩, by dsimp only; omega⟩, ?_⟩
   refine EndN.atS ?_ rfl rfl
   conv => whnf
   repeat' ((first | (refine gV ?_; first | refine vE ?_ | refine vI ?_) | exact True.intro) <;> conv => whnf)
  ·obtain rfl : j = cs.length := by omega
   have hG := q2.nilG (fun k l hk hl => hl hk); have hb2 : boxCells b2 p = some [slA Ac.av acc, .bsl bi its.length ki, .bsl t cs.length kt] := by simp [boxCells, q2.str, Box.cs?]
   conv => whnf
   try dsimp only
   repeat' ((first | (refine gC ?_; (refine gD ?_; refine cJ ?_)) | (refine gB ?_; refine .of (by assumption) ?_)) <;> (conv => whnf; try dsimp only))
   refine LoopP.by (fb := false) (fun st_ (a : Nat × List Box) => ⟨[(0, .ptr p 0), (20, .bsl bi its.length ki), (21, .int .i64 its.length), (22, .int .i64 (a.1 : Int))], a.2, bs.length⟩) (fun a => a.1 ≤ its.length ∧ IdxG a.2 p acc its (fun _ => its.take a.1) bi ki t kt cs ∧ bs.length ≤ a.2.length ∧ ∀ b, b < bs.length -> b ∉ cs -> a.2[b]? = bs[b]?) (fun a => its.length - a.1) (0, b2) ⟨Nat.zero_le _, by simpa using hG, by dsimp only; omega, fun b _ hb => q4 b hb⟩ ?_ ?_
   ·refine EndN.atS ?_ rfl rfl
    conv => whnf
    repeat' ((first | (refine gV ?_; first | refine vE ?_ | refine vI ?_) | exact True.intro) <;> conv => whnf)
   ·rintro ⟨j, b3⟩ ⟨r1, r2, r3, r4⟩; dsimp only at r1 r2 r3 r4
    by_cases hj : j < its.length
    ·obtain ⟨i, hi⟩ : ∃ i, its[j]? = some i := ⟨_, List.getElem?_eq_getElem hj⟩
     conv => whnf
     try dsimp only
     repeat' ((first | (refine gC ?_; (refine gD ?_; refine cI ?_)) | (refine gN ?_; refine nS ?_)) <;> (conv => whnf; try dsimp only))
     refine ElN.elem plainIt (l := its) (x := i) r2.items (by simpa using hi) ?_
     conv => whnf
     try dsimp only
     repeat' ((first | (refine gB ?_; refine .last ?_) | refine BxSet.last ?_) <;> (conv => whnf; try dsimp only))
     have hE := ixEnter_ok (i := i) (r2.snoc (.cells [.int .i64 i.id, .str i.atom.name, .sl .no (i.atom.args.map Tm.av)])) (fun k => ⟨(ha.asc.sublist (List.take_sublist _ _)), by rw [List.length_take]; omega⟩) (ha.ent i (List.mem_of_getElem? hi)) hacc ha.poss
     refine CallN.raw hE ?_; rintro r b4 ⟨rfl, s1, s2, s3⟩
     conv => whnf
     try dsimp only
     repeat' ((refine gW ?_; refine wI ?_) <;> (conv => whnf; try dsimp only))
     refine ⟨(j + 1, b4), ⟨⟨hj, ?_, ?_, fun b hb hbc => ?_⟩, by dsimp only; omega⟩, ?_⟩
     ·have := s1; simp only [asc_take ha.asc hi] at this; exact this
     ·simp at s2; dsimp only; omega
     ·rw [s3 b (by simp; omega) hbc, List.getElem?_append_left (by omega)]; exact r4 b hb hbc
     refine EndN.atS ?_ rfl rfl
     conv => whnf
     repeat' ((first | (refine gV ?_; first | refine vE ?_ | refine vI ?_) | exact True.intro) <;> conv => whnf)
    ·obtain rfl : j = its.length := by omega
     conv => whnf
     try dsimp only
     repeat' ((refine gC ?_; (refine gD ?_; refine cJ ?_)) <;> (conv => whnf; try dsimp only))
     refine ⟨_, Weak.refl _, .inl ⟨rfl, by simpa using r2, r3, r4⟩⟩
end Go.CK
