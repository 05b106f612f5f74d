/-
  Texts of this claim joined (wip/gen/bundle.py), those declarations only that are needed: UnD UnE UnS. By an AI agent.
-/
import Derived.Test.YtahooabjmaolhaaBaw
import Derived.Test.YtahooabjmaolhaaBat
import Derived.Lib.RowBridge
set_option linter.unusedSimpArgs false
set_option linter.unusedVariables false
namespace Go.CK
open Go.AM Go.Proofs
theorem Gr.bs_known {g : Gr} {l : List (Int × (Int × Int))} {r : Int} {m : Int × Int} {cap : Nat} : ({ g with known := pt l r m } : Gr).bs cap = [.cells [.sl (.own 5) (g.nodes.map Nd.av), .mpt 1, .bsl 5 g.up.length cap, .mpt 2, .mpt 3, .mpt 4], .mp (mpE natA g.vars), .mp (mpE natA g.shape), .mp (mpE intA0 g.least), .mp (mput (mpE msA l) r (msA m)), rowF natA 1 cap g.up] := by
  rw [mput_mpE]; rfl
/-- the measures of some classes, one after the other -/
def measL (N : Nat) (M : Gr → Nat → Option (Gr × Option (Int × Int))) : Gr → List Nat → Int × Int → Option (Gr × Option (Int × Int))
  | g, [], m => some (g, some m)
  | g, x :: xs, m => match rootF N g.up x with
    | none => none
    | some (u, r) => match M { g with up := u } r with
      | none => none
      | some (g2, none) => some (g2, none)
      | some (g2, some c) => if 0 ≤ c.1 ∧ c.1 ≤ 201 ∧ 0 ≤ c.2 ∧ c.2 ≤ 21 ∧ g2.up.length = g.up.length then measL N M g2 xs (min (m.1 + c.1) 201, min (max m.2 (c.2 + 1)) 21) else none
def measF (N : Nat) : Nat → Gr → List Int → Nat → Option (Gr × Option (Int × Int))
  | 0, _, _, _ => none
  | f + 1, g, busy, r => match lk g.known r with
    | some m => some (g, some m)
    | none => if (r : Int) ∈ busy then some (g, none) else match lk g.shape r with
      | none => some ({ g with known := pt g.known r (1, 1) }, some (1, 1))
      | some k => match g.nodes[k]? with
        | none => none
        | some d => if d.kids.length ≤ 4000000000 then match measL N (fun g x => measF N f g (busy ++ [(r : Int)]) x) g d.kids (1, 1) with
          | none => none
          | some (g2, none) => some (g2, none)
          | some (g2, some m) => some ({ g2 with known := pt g2.known r m }, some m)
          else none
def msO : Option (Int × Int) → AV
  | none => .agg [.int .i64 0, .int .i64 0]
  | some m => msA m
def measPost (g2 : Gr) (m : Option (Int × Int)) (cap : Nat) (B : List (Int × Nat)) (r : AV) (bs' : List Box) : Prop := r = .tup [msO m, .bool m.isSome] ∧ ∃ c, bs' = g2.bs cap ++ [.mq (qB B) c, .cells (msO m).cells]
set_option maxHeartbeats 2000000 in
set_option maxRecDepth 100000 in
theorem measured_ok {N : Nat} : ∀ (f : Nat) {g : Gr} {B : List (Int × Nat)} {c r : Nat} {g2 : Gr} {m : Option (Int × Int)} {cap : Nat}, measF N f g (B.map (·.1)) r = some (g2, m) → g.up.length ≤ cap → AM.Sem Try.prog 44 [.ptr 0 0, .int .i64 (r : Int), .mpt 6] (g.bs cap ++ [.mq (qB B) c]) (measPost g2 m cap B) := by
  intro f
  induction f with
  | zero => intro g B c r g2 m cap h; cases h
  | succ f ih =>
    intro g B c r g2 m cap h hcap
    rw [measF] at h
    refine op_p_unify_graph_measured (by simp) ?_
    cases hk : lk g.known r with
    | some x =>
      rw [hk] at h
      cases h
      conv => whnf
      repeat' ((first | (refine gC ?_; refine cY ?_) | (refine gMp ?_; refine mA ?_) | (refine gMs ?_; refine mEs ?_)) <;> conv => whnf)
      refine RetP.lay [some 0, some 1, some 2, some 3, some 4, some 5, some 6, some 7] (by repeat' (first | exact rfl | exact atB_row plainN _ _ | exact atB_row plainPr _ _ | exact atB_row plainTmA _ _ | refine okO_cons ?_ ?_ | refine okO_none ?_ | refine allB_cons ?_ ?_)) ?_
      conv => whnf
      conv => whnf
      repeat' (refine RetP.nrm ?_ <;> conv => whnf)
      exact ⟨rfl, c, rfl⟩
    | none =>
      rw [hk] at h
      simp only at h
      by_cases hb : (r : Int) ∈ B.map (·.1)
      · rw [if_pos hb] at h
        cases h
        conv => whnf
        repeat' ((first | (refine gC ?_; refine cN ?_) | (refine gMp ?_; first | refine mA ?_ | refine mAq ?_) | (refine gMs ?_; refine mEn ?_)) <;> conv => whnf)
        refine MqN.yes hb ?_
        conv => whnf
        repeat' ((refine gC ?_; refine cY ?_) <;> conv => whnf)
        refine RetP.lay [some 0, some 1, some 2, some 3, some 4, some 5, some 6, some 7] (by repeat' (first | exact rfl | exact atB_row plainN _ _ | exact atB_row plainPr _ _ | exact atB_row plainTmA _ _ | refine okO_cons ?_ ?_ | refine okO_none ?_ | refine allB_cons ?_ ?_)) ?_
        conv => whnf
        conv => whnf
        repeat' (refine RetP.nrm ?_ <;> conv => whnf)
        exact ⟨rfl, c, rfl⟩
      · rw [if_neg hb] at h
        conv => whnf
        repeat' ((first | (refine gC ?_; refine cN ?_) | (refine gMp ?_; first | refine mA ?_ | refine mAq ?_) | (refine gMs ?_; refine mEn ?_)) <;> conv => whnf)
        refine MqN.no hb ?_
        cases hs : lk g.shape r with
        | none =>
          rw [hs] at h
          cases h
          conv => whnf
          repeat' ((first | (refine gC ?_; refine cN ?_) | (refine gN ?_; refine nS ?_) | (refine gMp ?_; first | refine mA ?_ | refine mAq ?_) | (refine gMs ?_; refine mEn ?_)) <;> conv => whnf)
          refine RetDP.lay [some 0, some 1, some 2, some 3, some 4, some 5, some 6, some 7] (by repeat' (first | exact rfl | exact atB_row plainN _ _ | exact atB_row plainPr _ _ | exact atB_row plainTmA _ _ | refine okO_cons ?_ ?_ | refine okO_none ?_ | refine allB_cons ?_ ?_)) ?_
          conv => whnf
          refine RetDP.done (l := qB (B ++ [((r : Int), c)])) (c := qcnt (qB B) r c) (by first | exact rfl | (show some (Box.mq (qput (qB B) r (.bool true) c) _) = _; rw [qput_qB B _ c hb])) ?_
          rw [qdel_qB B _ c hb]
          conv => whnf
          refine ⟨rfl, qcnt (qB B) r c, ?_⟩
          first | exact rfl | (rw [Gr.bs_known]; rfl)
        | some k =>
          rw [hs] at h
          simp only at h
          cases hd : g.nodes[k]? with
          | none => rw [hd] at h; cases h
          | some d =>
            rw [hd] at h
            simp only at h
            by_cases hdk : d.kids.length ≤ 4000000000
            rotate_left
            · rw [if_neg hdk] at h; cases h
            rw [if_pos hdk] at h
            cases hL : measL N (fun g x => measF N f g (B.map (·.1) ++ [(r : Int)]) x) g d.kids (1, 1) with
            | none => rw [hL] at h; cases h
            | some gm =>
              obtain ⟨g3, mo⟩ := gm
              rw [hL] at h
              have hBk : (B ++ [((r : Int), c)]).map (·.1) = B.map (·.1) ++ [(r : Int)] := by simp
              rw [← hBk] at hL
              conv => whnf
              repeat' ((first | (refine gC ?_; first | refine cY ?_ | refine cN ?_) | (refine gL ?_; refine .map ?_) | (refine gN ?_; refine nS ?_) | (refine gI ?_; (refine gM ?_; refine iE ?_)) | (refine gMp ?_; first | refine mA ?_ | refine mAq ?_) | (refine gMs ?_; refine mEs ?_)) <;> conv => whnf)
              refine LoopP.by (fb := true) (fun _ (q : Nat × Gr × (Int × Int) × Nat) => ⟨[(0, .ptr 0 0), (1, .int .i64 (r : Int)), (2, .mpt 6), (6, .ptr 7 0), (10, .ptr 8 0), (54, .sl .no (d.kids.map natA)), (55, .int .i64 (d.kids.length : Int)), (56, .int .i64 (q.1 : Int))], q.2.1.bs cap ++ [.mq (qB (B ++ [((r : Int), c)])) q.2.2.2, .cells [.int .i64 0, .int .i64 0], .cells [.int .i64 q.2.2.1.1, .int .i64 q.2.2.1.2]], 7⟩) (fun q => q.1 ≤ d.kids.length ∧ measL N (fun g x => measF N f g ((B ++ [((r : Int), c)]).map (·.1)) x) q.2.1 (d.kids.drop q.1) q.2.2.1 = some (g3, mo) ∧ q.2.1.up.length = g.up.length ∧ 0 ≤ q.2.2.1.1 ∧ q.2.2.1.1 ≤ 201 ∧ 0 ≤ q.2.2.1.2 ∧ q.2.2.1.2 ≤ 21) (fun q => d.kids.length - q.1) (0, g, (1, 1), qcnt (qB B) r c) ⟨Nat.zero_le _, hL, rfl, by show (0 : Int) ≤ 1; decide, by show (1 : Int) ≤ 201; decide, by show (0 : Int) ≤ 1; decide, by show (1 : Int) ≤ 21; decide⟩ ?_ ?_
              · refine EndN.lay [some 0, some 1, some 2, some 3, some 4, some 5, some 6, some 7, some 9] (by repeat' (first | exact rfl | exact atB_row plainN _ _ | exact atB_row plainPr _ _ | exact atB_row plainTmA _ _ | refine okO_cons ?_ ?_ | refine okO_none ?_ | refine allB_cons ?_ ?_)) ?_
                conv => whnf
                dsimp only
                rw [← qput_qB B _ c hb]
                refine EndN.at_ ?_ rfl
                conv => whnf
                refine And.intro ?_ ?_ <;> conv => whnf
                all_goals repeat' ((first | (refine gV ?_; first | refine vE ?_ | refine vI ?_) | (refine gX ?_; refine xB ?_) | exact True.intro) <;> conv => whnf)
                refine .mk rfl (.mk rfl ?_)
                conv => whnf
                repeat' ((first | (refine gX ?_; refine xB ?_) | exact True.intro) <;> conv => whnf)
              · rintro ⟨j, gj, ⟨m1, m2⟩, cj⟩ ⟨q1, q2, q3, q4⟩
                dsimp only at q1 q2 q3 q4 ⊢
                by_cases hj : j < d.kids.length
                · obtain ⟨x, hx⟩ : ∃ x, d.kids[j]? = some x := ⟨_, List.getElem?_eq_getElem hj⟩
                  rw [List.drop_eq_getElem_cons hj, (List.getElem?_eq_some_iff.1 hx).2, measL] at q2
                  cases hr : rootF N gj.up x with
                  | none => rw [hr] at q2; cases q2
                  | some ur =>
                    obtain ⟨u, r'⟩ := ur
                    rw [hr] at q2
                    simp only at q2
                    have hul := rootF_len hr
                    cases hm : measF N f { gj with up := u } ((B ++ [((r : Int), c)]).map (·.1)) r' with
                    | none => rw [hm] at q2; cases q2
                    | some gm =>
                      obtain ⟨g4, m4⟩ := gm
                      rw [hm] at q2
                      conv => whnf
                      repeat' ((first | (refine gC ?_; (refine gD ?_; refine cI ?_)) | (refine gI ?_; (refine gM ?_; refine iE ?_))) <;> conv => whnf)
                      refine CallN.at [0, 1, 2, 3, 4, 5] (root_ok hr (by omega)) rfl rfl ?_ (by repeat' (first | exact rfl | exact atB_row plainN _ _ | exact atB_row plainPr _ _ | exact atB_row plainTmA _ _ | refine okO_cons ?_ ?_ | refine okO_none ?_ | refine allB_cons ?_ ?_)) ?_
                      · rintro r bs' ⟨rfl, rfl⟩; exact ⟨rfl, rfl, (by repeat' (first | exact rfl | exact atB_row plainN _ _ | exact atB_row plainPr _ _ | exact atB_row plainTmA _ _ | refine okO_cons ?_ ?_ | refine okO_none ?_ | refine allB_cons ?_ ?_))⟩
                      rintro r bs' ⟨rfl, rfl⟩
                      conv => whnf
                      skip
                      have hcall := ih (c := cj) (cap := cap) hm (by show u.length ≤ cap; omega)
                      cases m4 with
                      | none =>
                        simp only at q2
                        refine CallN.at [0, 1, 2, 3, 4, 5, 6] hcall rfl rfl ?_ (by repeat' (first | exact rfl | exact atB_row plainN _ _ | exact atB_row plainPr _ _ | exact atB_row plainTmA _ _ | refine okO_cons ?_ ?_ | refine okO_none ?_ | refine allB_cons ?_ ?_)) ?_
                        · rintro r bs' ⟨rfl, c', rfl⟩; exact ⟨rfl, rfl, (by repeat' (first | exact rfl | exact atB_row plainN _ _ | exact atB_row plainPr _ _ | exact atB_row plainTmA _ _ | refine okO_cons ?_ ?_ | refine okO_none ?_ | refine allB_cons ?_ ?_))⟩
                        rintro rr bs' ⟨hrr, c', rfl⟩
                        change rr = .tup [.agg [.int .i64 0, .int .i64 0], .bool false] at hrr
                        subst hrr
                        cases q2
                        cases h
                        conv => whnf
                        repeat' ((refine gC ?_; first | refine cN ?_ | refine .not ?_) <;> conv => whnf)
                        refine RetDP.lay [some 0, some 1, some 2, some 3, some 4, some 5, some 6, some 7] (by repeat' (first | exact rfl | exact atB_row plainN _ _ | exact atB_row plainPr _ _ | exact atB_row plainTmA _ _ | refine okO_cons ?_ ?_ | refine okO_none ?_ | refine allB_cons ?_ ?_)) ?_
                        conv => whnf
                        refine RetDP.done (l := qB (B ++ [((r : Int), c)])) (c := c') (by first | exact rfl | (show some (Box.mq (qput (qB B) r (.bool true) c) _) = _; rw [qput_qB B _ c hb])) ?_
                        rw [qdel_qB B _ c hb]
                        conv => whnf
                        refine ⟨rfl, c', ?_⟩
                        first | exact rfl | (rw [Gr.bs_known]; rfl)
                      | some m4 =>
                        simp only at q2
                        by_cases hcc : 0 ≤ m4.1 ∧ m4.1 ≤ 201 ∧ 0 ≤ m4.2 ∧ m4.2 ≤ 21 ∧ g4.up.length = gj.up.length
                        rotate_left
                        · rw [if_neg hcc] at q2; cases q2
                        rw [if_pos hcc] at q2
                        obtain ⟨c1, c2, c3, c4, c5⟩ := hcc
                        refine CallN.at [0, 1, 2, 3, 4, 5, 6] hcall rfl rfl ?_ (by repeat' (first | exact rfl | exact atB_row plainN _ _ | exact atB_row plainPr _ _ | exact atB_row plainTmA _ _ | refine okO_cons ?_ ?_ | refine okO_none ?_ | refine allB_cons ?_ ?_)) ?_
                        · rintro r bs' ⟨rfl, c', rfl⟩; exact ⟨rfl, rfl, (by repeat' (first | exact rfl | exact atB_row plainN _ _ | exact atB_row plainPr _ _ | exact atB_row plainTmA _ _ | refine okO_cons ?_ ?_ | refine okO_none ?_ | refine allB_cons ?_ ?_))⟩
                        rintro rr bs' ⟨hrr, c', rfl⟩
                        change rr = .tup [.agg [.int .i64 m4.1, .int .i64 m4.2], .bool true] at hrr
                        subst hrr
                        conv => whnf
                        repeat' ((first | (refine gC ?_; first | refine cY ?_ | refine .not ?_) | (refine gW ?_; refine wI ?_)) <;> conv => whnf)
                        refine ⟨(j + 1, g4, (min (m1 + m4.1) 201, min (max m2 (m4.2 + 1)) 21), c'), ⟨⟨hj, q2, by show g4.up.length = _; omega, by show 0 ≤ min (m1 + m4.1) 201; omega, by show min (m1 + m4.1) 201 ≤ 201; omega, by show 0 ≤ min (max m2 (m4.2 + 1)) 21; omega, by show min (max m2 (m4.2 + 1)) 21 ≤ 21; omega⟩, by show _ - (j + 1) < _ - j; omega⟩, ?_⟩
                        dsimp only
                        refine EndN.lay [some 0, some 1, some 2, some 3, some 4, some 5, some 6, some 7, some 8] (by repeat' (first | exact rfl | exact atB_row plainN _ _ | exact atB_row plainPr _ _ | exact atB_row plainTmA _ _ | refine okO_cons ?_ ?_ | refine okO_none ?_ | refine allB_cons ?_ ?_)) ?_
                        conv => whnf
                        refine EndN.at_ ?_ rfl
                        conv => whnf
                        refine And.intro ?_ ?_ <;> conv => whnf
                        all_goals repeat' ((first | (refine gV ?_; first | refine vE ?_ | refine vI ?_) | (refine gX ?_; refine xB ?_) | exact True.intro) <;> conv => whnf)
                · obtain rfl : j = d.kids.length := by omega
                  rw [List.drop_length, measL] at q2
                  cases q2
                  cases h
                  conv => whnf
                  repeat' ((first | (refine gC ?_; (refine gD ?_; refine cJ ?_)) | (refine gN ?_; refine nS ?_) | (refine gMp ?_; refine mA ?_)) <;> conv => whnf)
                  refine RetDP.lay [some 0, some 1, some 2, some 3, some 4, some 5, some 6, some 7] (by repeat' (first | exact rfl | exact atB_row plainN _ _ | exact atB_row plainPr _ _ | exact atB_row plainTmA _ _ | refine okO_cons ?_ ?_ | refine okO_none ?_ | refine allB_cons ?_ ?_)) ?_
                  conv => whnf
                  refine RetDP.done (l := qB (B ++ [((r : Int), c)])) (c := cj) (by first | exact rfl | (show some (Box.mq (qput (qB B) r (.bool true) c) _) = _; rw [qput_qB B _ c hb])) ?_
                  rw [qdel_qB B _ c hb]
                  conv => whnf
                  refine ⟨rfl, cj, ?_⟩
                  first | exact rfl | (rw [Gr.bs_known]; rfl)
end Go.CK

namespace Go.CK
open Go.AM Go.Proofs
def varT (n : Int) : Tm := .mk 1 n ⟨⟨[]⟩⟩ []
theorem termVar_ok (n : Int) : Fun Try.prog 67 [.int .i64 n] (varT n).avw := by
  refine Fun.of (op_term_Var (by simp) ?_) rfl rfl
  conv => whnf
  conv => whnf
  repeat' (refine RetP.nrm ?_ <;> conv => whnf)
  exact rfl
/-- elements of a row of terms; none: not yet laid -/
def tmA : Option Tm → AV
  | none => .agg [.int .i64 0, .int .i64 0, .str ⟨⟨[]⟩⟩, .sl .full []]
  | some t => t.avw
theorem plainTmA : Plain tmA 4 := by
  refine ⟨by omega, fun x => ?_, fun x c h => ?_, fun x c h => ?_⟩
  · cases x <;> rfl
  · cases x <;> (simp [tmA, Tm.avw, AV.cells] at h; rcases h with rfl | rfl | rfl | rfl <;> rfl)
  · cases x <;> (simp [tmA, Tm.avw, AV.cells] at h; rcases h with rfl | rfl | rfl | rfl <;> rfl)
theorem tmA_some (l : List Tm) : (l.map some).map tmA = l.map Tm.av := by
  rw [List.map_map]
  refine List.map_congr_left fun t _ => ?_
  exact (Tm.av_w t).symm
theorem setNone_get {acc : List Tm} {n j : Nat} (h : acc.length = j) (hj : j < n) : (acc.map some ++ List.replicate (n - j) none)[j]? = some none := by
  rw [List.getElem?_append_right (by rw [List.length_map]; omega), List.length_map, h, Nat.sub_self, List.getElem?_replicate, if_pos (by omega)]
theorem setNone {acc : List Tm} {n j : Nat} {t : Tm} (h : acc.length = j) (hj : j < n) : (acc.map some ++ List.replicate (n - j) none).set j (some t) = (acc ++ [t]).map some ++ List.replicate (n - (j + 1)) none := by
  rw [List.set_append_right _ _ (by rw [List.length_map]; omega), List.length_map, h, Nat.sub_self]
  obtain ⟨k, hk⟩ : ∃ k, n - j = k + 1 := ⟨n - j - 1, by omega⟩
  rw [hk, show n - (j + 1) = k by omega, List.replicate_succ, List.set_cons_zero, List.map_append, List.append_assoc]; rfl
def expL (N : Nat) (M : Gr → Nat → Option (Gr × Tm)) : Gr → List Nat → Option (Gr × List Tm)
  | g, [] => some (g, [])
  | g, x :: xs => match rootF N g.up x with
    | none => none
    | some (u, r) => match M { g with up := u } r with
      | none => none
      | some (g2, t) => if g2.up.length = g.up.length then match expL N M g2 xs with
        | none => none
        | some (g3, l) => some (g3, t :: l)
        else none
def lkD (l : List (Int × Int)) (n : Int) : Int := match lk l n with
  | none => 0
  | some v => v
def expF (N : Nat) : Nat → Gr → Nat → Option (Gr × Tm)
  | 0, _, _ => none
  | f + 1, g, r => match lk g.shape r with
    | none => some (g, varT (lkD g.least r))
    | some k => match g.nodes[k]? with
      | none => none
      | some d => if d.t.args.length = 0 then some (g, d.t) else if d.kids.length = d.t.args.length ∧ d.kids.length ≤ 4000000000 then match expL N (expF N f) g d.kids with
        | none => none
        | some (g2, l) => some (g2, .mk d.t.kind d.t.num d.t.name l)
        else none
def expPost (g2 : Gr) (t : Tm) (cap : Nat) (r : AV) (bs' : List Box) : Prop := r = t.avw ∧ bs' = g2.bs cap ++ [.cells [.int .i64 t.kind, .int .i64 t.num, .str t.name, .sl .no (t.args.map Tm.av)]]
set_option maxHeartbeats 2000000 in
set_option maxRecDepth 100000 in
theorem expand_ok {N : Nat} : ∀ (f : Nat) {g : Gr} {r : Nat} {g2 : Gr} {t : Tm} {cap : Nat}, expF N f g r = some (g2, t) → g.up.length ≤ cap → AM.Sem Try.prog 47 [.ptr 0 0, .int .i64 (r : Int)] (g.bs cap) (expPost g2 t cap) := by
  intro f
  induction f with
  | zero => intro g r g2 t cap h; cases h
  | succ f ih =>
    intro g r g2 t cap h hcap
    rw [expF] at h
    refine op_p_unify_graph_expand (by simp) ?_
    cases hs : lk g.shape r with
    | none =>
      rw [hs] at h
      cases h
      cases hl : lk g.least r with
      | none =>
        rw [show lkD g.least r = 0 by rw [lkD, hl]]
        conv => whnf
        repeat' ((first | (refine gF ?_; refine CallN.fn (termVar_ok _) ?_) | (refine gC ?_; first | refine cN ?_ | refine .not ?_) | (refine gMp ?_; refine mA ?_) | (refine gMs ?_; refine mEn ?_)) <;> conv => whnf)
        refine RetP.lay [some 0, some 1, some 2, some 3, some 4, some 5, some 6] (by repeat' (first | exact rfl | exact atB_row plainN _ _ | exact atB_row plainPr _ _ | exact atB_row plainTmA _ _ | refine okO_cons ?_ ?_ | refine okO_none ?_ | refine allB_cons ?_ ?_)) ?_
        conv => whnf
        conv => whnf
        repeat' (refine RetP.nrm ?_ <;> conv => whnf)
        exact ⟨rfl, rfl⟩
      | some v =>
        rw [show lkD g.least r = v by rw [lkD, hl]]
        conv => whnf
        repeat' ((first | (refine gF ?_; refine CallN.fn (termVar_ok _) ?_) | (refine gC ?_; first | refine cN ?_ | refine .not ?_) | (refine gMp ?_; refine mA ?_) | (refine gMs ?_; first | refine mEs ?_ | refine mEn ?_)) <;> conv => whnf)
        refine RetP.lay [some 0, some 1, some 2, some 3, some 4, some 5, some 6] (by repeat' (first | exact rfl | exact atB_row plainN _ _ | exact atB_row plainPr _ _ | exact atB_row plainTmA _ _ | refine okO_cons ?_ ?_ | refine okO_none ?_ | refine allB_cons ?_ ?_)) ?_
        conv => whnf
        conv => whnf
        repeat' (refine RetP.nrm ?_ <;> conv => whnf)
        exact ⟨rfl, rfl⟩
    | some k =>
      rw [hs] at h
      simp only at h
      cases hd : g.nodes[k]? with
      | none => rw [hd] at h; cases h
      | some d =>
        rw [hd] at h
        simp only at h
        by_cases h0 : d.t.args.length = 0
        · rw [if_pos h0] at h
          cases h
          conv => whnf
          repeat' ((first | (refine gC ?_; first | refine cY ?_ | refine .not ?_ | (refine gD ?_; refine cI ?_)) | (refine gL ?_; refine .map ?_) | (refine gI ?_; (refine gM ?_; refine iE ?_)) | (refine gMp ?_; refine mA ?_) | (refine gMs ?_; refine mEs ?_)) <;> conv => whnf)
          refine RetP.lay [some 0, some 1, some 2, some 3, some 4, some 5, some 6] (by repeat' (first | exact rfl | exact atB_row plainN _ _ | exact atB_row plainPr _ _ | exact atB_row plainTmA _ _ | refine okO_cons ?_ ?_ | refine okO_none ?_ | refine allB_cons ?_ ?_)) ?_
          conv => whnf
          conv => whnf
          repeat' (refine RetP.nrm ?_ <;> conv => whnf)
          exact ⟨rfl, rfl⟩
        · rw [if_neg h0] at h
          by_cases hk : d.kids.length = d.t.args.length ∧ d.kids.length ≤ 4000000000
          rotate_left
          · rw [if_neg hk] at h; cases h
          rw [if_pos hk] at h
          obtain ⟨hk1, hk2⟩ := hk
          cases hL : expL N (expF N f) g d.kids with
          | none => rw [hL] at h; cases h
          | some gl =>
            obtain ⟨g3, l⟩ := gl
            rw [hL] at h
            cases h
            conv => whnf
            repeat' ((first | (refine gC ?_; first | refine cY ?_ | refine .not ?_ | (refine gD ?_; refine cJ ?_)) | (refine gL ?_; refine .map ?_) | (refine gI ?_; (refine gM ?_; refine iE ?_)) | (refine gMp ?_; refine mA ?_) | (refine gMs ?_; refine mEs ?_)) <;> conv => whnf)
            refine .row plainTmA none (by omega) ?_
            conv => whnf
            repeat' ((first | (refine gL ?_; refine .map ?_) | (refine gI ?_; (refine gM ?_; refine iE ?_))) <;> conv => whnf)
            simp only [Int.toNat_natCast]
            refine LoopP.by (fb := true) (fun _ (q : Nat × Gr × List Tm) => ⟨[(0, .ptr 0 0), (4, .ptr 6 0), (7, .ptr 7 0), (8, .bsl 8 d.t.args.length d.t.args.length), (53, .sl .no (d.kids.map natA)), (54, .int .i64 (d.kids.length : Int)), (55, .int .i64 (q.1 : Int))], q.2.1.bs cap ++ [.cells [.int .i64 0, .int .i64 0, .str ⟨⟨[]⟩⟩, .sl .full []], .cells [.int .i64 d.t.kind, .int .i64 d.t.num, .str d.t.name, .sl .no (d.t.args.map Tm.av)], rowF tmA 4 d.t.args.length (q.2.2.map some ++ List.replicate (d.t.args.length - q.1) none)], 6⟩) (fun q => q.1 ≤ d.kids.length ∧ q.2.2.length = q.1 ∧ q.2.1.up.length = g.up.length ∧ ∃ l2, expL N (expF N f) q.2.1 (d.kids.drop q.1) = some (g2, l2) ∧ l = q.2.2 ++ l2) (fun q => d.kids.length - q.1) (0, g, []) ⟨Nat.zero_le _, rfl, rfl, l, hL, rfl⟩ ?_ ?_
            · simp only [List.map_nil, List.nil_append, Nat.sub_zero]
              refine EndN.at_ ?_ rfl
              conv => whnf
              refine And.intro ?_ ?_ <;> conv => whnf
              all_goals repeat' ((first | (refine gV ?_; first | refine vE ?_ | refine vI ?_) | (refine gX ?_; refine xB ?_) | exact True.intro) <;> conv => whnf)
            · rintro ⟨j, gj, acc⟩ ⟨q1, q2, q3, l2, q4, q5⟩
              dsimp only at q1 q2 q3 q4 q5 ⊢
              by_cases hj : j < d.kids.length
              · obtain ⟨x, hx⟩ : ∃ x, d.kids[j]? = some x := ⟨_, List.getElem?_eq_getElem hj⟩
                rw [List.drop_eq_getElem_cons hj, (List.getElem?_eq_some_iff.1 hx).2, expL] at q4
                cases hr : rootF N gj.up x with
                | none => rw [hr] at q4; cases q4
                | some ur =>
                  obtain ⟨u, r'⟩ := ur
                  rw [hr] at q4
                  simp only at q4
                  have hul := rootF_len hr
                  cases hm : expF N f { gj with up := u } r' with
                  | none => rw [hm] at q4; cases q4
                  | some gt =>
                    obtain ⟨g4, t4⟩ := gt
                    rw [hm] at q4
                    simp only at q4
                    by_cases hg4 : g4.up.length = gj.up.length
                    rotate_left
                    · rw [if_neg hg4] at q4; cases q4
                    rw [if_pos hg4] at q4
                    cases hL4 : expL N (expF N f) g4 (d.kids.drop (j + 1)) with
                    | none => rw [hL4] at q4; cases q4
                    | some gl4 =>
                      obtain ⟨g5, l5⟩ := gl4
                      rw [hL4] at q4
                      cases q4
                      conv => whnf
                      repeat' ((first | (refine gC ?_; (refine gD ?_; refine cI ?_)) | (refine gI ?_; (refine gM ?_; refine iE ?_))) <;> conv => whnf)
                      refine CallN.at [0, 1, 2, 3, 4, 5] (root_ok hr (by omega)) rfl rfl ?_ (by repeat' (first | exact rfl | exact atB_row plainN _ _ | exact atB_row plainPr _ _ | exact atB_row plainTmA _ _ | refine okO_cons ?_ ?_ | refine okO_none ?_ | refine allB_cons ?_ ?_)) ?_
                      · rintro r bs' ⟨rfl, rfl⟩; exact ⟨rfl, rfl, (by repeat' (first | exact rfl | exact atB_row plainN _ _ | exact atB_row plainPr _ _ | exact atB_row plainTmA _ _ | refine okO_cons ?_ ?_ | refine okO_none ?_ | refine allB_cons ?_ ?_))⟩
                      rintro r bs' ⟨rfl, rfl⟩
                      conv => whnf
                      skip
                      refine CallN.at [0, 1, 2, 3, 4, 5] (ih (cap := cap) hm (by show u.length ≤ cap; omega)) rfl rfl ?_ (by repeat' (first | exact rfl | exact atB_row plainN _ _ | exact atB_row plainPr _ _ | exact atB_row plainTmA _ _ | refine okO_cons ?_ ?_ | refine okO_none ?_ | refine allB_cons ?_ ?_)) ?_
                      · rintro r bs' ⟨rfl, rfl⟩; exact ⟨rfl, rfl, (by repeat' (first | exact rfl | exact atB_row plainN _ _ | exact atB_row plainPr _ _ | exact atB_row plainTmA _ _ | refine okO_cons ?_ ?_ | refine okO_none ?_ | refine allB_cons ?_ ?_))⟩
                      rintro r bs' ⟨rfl, rfl⟩
                      conv => whnf
                      repeat' ((refine gN ?_; refine nS ?_) <;> conv => whnf)
                      refine EsN.elem plainTmA (fun x => by cases x <;> rfl) (x := none) (y := some t4) (l := acc.map some ++ List.replicate (d.t.args.length - j) none) rfl (by rw [Int.toNat_natCast]; exact setNone_get q2 (by omega)) rfl ?_
                      rw [Int.toNat_natCast, setNone q2 (by omega)]
                      conv => whnf
                      repeat' ((refine gW ?_; refine wI ?_) <;> conv => whnf)
                      refine ⟨(j + 1, g4, acc ++ [t4]), ⟨⟨hj, by show (acc ++ [t4]).length = j + 1; rw [List.length_append, q2]; rfl, by show g4.up.length = _; omega, l5, hL4, by rw [q5]; simp⟩, by show _ - (j + 1) < _ - j; omega⟩, ?_⟩
                      dsimp only
                      refine EndN.lay [some 0, some 1, some 2, some 3, some 4, some 5, some 6, some 7, some 8] (by repeat' (first | exact rfl | exact atB_row plainN _ _ | exact atB_row plainPr _ _ | exact atB_row plainTmA _ _ | refine okO_cons ?_ ?_ | refine okO_none ?_ | refine allB_cons ?_ ?_)) ?_
                      conv => whnf
                      refine EndN.at_ ?_ rfl
                      conv => whnf
                      refine And.intro ?_ ?_ <;> conv => whnf
                      all_goals repeat' ((first | (refine gV ?_; first | refine vE ?_ | refine vI ?_) | (refine gX ?_; refine xB ?_) | exact True.intro) <;> conv => whnf)
              · obtain rfl : j = d.kids.length := by omega
                rw [List.drop_length, expL] at q4
                cases q4
                rw [List.append_nil] at q5
                subst q5
                rw [hk1, Nat.sub_self, List.replicate_zero, List.append_nil]
                conv => whnf
                repeat' ((refine gC ?_; (refine gD ?_; refine cJ ?_)) <;> conv => whnf)
                refine RetP.lay [some 0, some 1, some 2, some 3, some 4, some 5, some 6, some 8] (by repeat' (first | exact rfl | exact atB_row plainN _ _ | exact atB_row plainPr _ _ | exact atB_row plainTmA _ _ | refine okO_cons ?_ ?_ | refine okO_none ?_ | refine allB_cons ?_ ?_)) ?_
                conv => whnf
                refine RetP.frozeBx plainTmA 6 3 (b := 7) (l := l.map some) rfl rfl rfl ?_ ?_
                · rw [List.length_map]; omega
                rw [List.take_of_length_le (by rw [List.length_map]; omega), tmA_some]
                conv => whnf
                refine RetP.lay [some 0, some 1, some 2, some 3, some 4, some 5, some 6] (by repeat' (first | exact rfl | exact atB_row plainN _ _ | exact atB_row plainPr _ _ | exact atB_row plainTmA _ _ | refine okO_cons ?_ ?_ | refine okO_none ?_ | refine allB_cons ?_ ?_)) ?_
                conv => whnf
                conv => whnf
                repeat' (refine RetP.nrm ?_ <;> conv => whnf)
                exact ⟨rfl, rfl⟩
end Go.CK

namespace Go.AM
open Go.CK Go.RowKit Go.Proofs
/-- a function that makes blocks and hands back a row of numbers -/
theorem Sem.ofRow {P : Program} {f : FuncId} {vals : List AV} {bs : List Box} {zs : List Int} (hz : zs.length ≤ lim) (h : ∀ (E : Entry) (G : Gh) (a0 : Act) (w : World) (args : List Value) (lo : Nat), RS E G ⟨[], bs, lo⟩ a0 w → args.length = vals.length → (∀ j (hj : j < vals.length) v, args[j]? = some v → RV G.M G.σ bs.length vals[j] v) → Calls P f args.toArray w fun e w' => ∃ v T, e = .returned v ∧ w'.ownsRow w.heap.size T 1 v zs.length (zs.map (Value.int .i64)) ∧ Below w.heap.size w w') : Sem P f vals bs fun r bs' => r = slA intA zs ∧ bs' = bs := by
  intro E G a0 w args lo hs hl hv
  refine (h E G a0 w args lo hs hl hv).mono ?_
  rintro e w' ⟨v, T, rfl, hrow, hb⟩
  have h0 := hs.reAct (callE G bs w 1) ⟨#[v], []⟩ (Fr.refl _ _ _) rfl bs.length rfl (Nat.le_refl _) (fun _ _ => rfl) (fun B hB => .inl hB) rfl
  have hMlt : ∀ B o u, G.M B o = some u → B < w.heap.size := fun B o u hu => Hp.lt hs.ok hu
  have hle : G.M.le (G.M.plus w w') := fun B o u hu => by
    unfold Hp.plus
    rw [if_neg (by have := hMlt B o u hu; omega)]; exact hu
  have hok : (G.M.plus w w').le (Hp.of w') := fun B o u hu => by
    unfold Hp.plus at hu
    split at hu
    · exact hu
    · exact (hb.cell (p := ⟨B, o, none⟩) (hMlt B o u hu)).trans (hs.ok _ _ _ hu)
  have h1 := h0.grow (M' := G.M.plus w w') (w' := w') ⟨hb.os, hb.tape, hb.output, hb.size, hle, fun B hB _ => hb.block B hB, fun B hB _ o => by unfold Hp.plus; rw [if_neg (by omega)]⟩ hok
  refine ⟨_, _, _, _, rfl, ⟨rfl, rfl⟩, h1.put (k := 0) Nat.zero_lt_one (x := slA intA zs) (.flat ?_)⟩
  rcases hrow.2 with ⟨rfl, hz0⟩ | ⟨g, cap, cur, rfl, hg1, hg2, hg3, hg4, hg5, hg6⟩
  · have : zs = [] := List.eq_nil_of_length_eq_zero hz0
    subst this
    exact FV.mk_sl (l := []) (B := 0) (off := 0) (sz := 1) (by simp) (Nat.le_refl _) (Nat.zero_le _) (by simp) (fun h => absurd rfl h) (fun i hi => by cases hi)
  · have hel : Elems (G.M.plus w w') g 0 1 (zs.map intA) := fun i hi => by
      have hi' : i < zs.length := by simpa using hi
      refine ⟨by simp [intA, AV.cells], fun j hj => ?_⟩
      have hj0 : j = 0 := by simp [intA, AV.cells] at hj; omega
      subst hj0
      have hlt : i < cur.size := by omega
      have hcur : cur[i]? = some (.int .i64 zs[i]) := by
        have h1 : (cur.toList.take (zs.length * 1))[i]? = (zs.map (Value.int .i64))[i]? := by rw [hg6]
        rw [List.getElem?_take_of_lt (by omega)] at h1
        simpa [hi'] using h1
      refine ⟨.int .i64 zs[i], ?_, rfl, ?_⟩
      · unfold Hp.plus
        rw [if_pos hg1]
        simp only [World.cell?, hg2]
        simpa using hcur
      · simp only [List.getElem_map, intA, AV.cells]
        exact .int _ _
    have := FV.mk_sl (M := G.M.plus w w') (o := .no) (l := zs.map intA) (a := some ⟨g, 0, none⟩) (k := cap) (B := g) (off := 0) (sz := 1) (by simp) (by simpa using hg3) (by simpa using hz) (by simp) (fun _ => rfl) hel
    rw [List.length_map] at this
    exact this
end Go.AM
namespace Go.CK
open Go.AM Go.RowKit Go.Proofs Go.Maps
def sortL (l : List Int) : List Int := l.mergeSort fun x y => decide (x ≤ y)
theorem keys_ok {l : List (Int × AV)} : AM.Sem Try.prog 46 [.mpt 0] [.mp l] fun r bs' => r = .fn (.func 66) [] [.ptr 1 0] ∧ bs' = [.mp l, .cells [.mpt 0]] := by
  refine op_maps_Keys_map_int_int_int_int (by simp) ?_
  conv => whnf
  repeat' ((first | (refine gC ?_; first | refine cY ?_ | refine cN ?_ | refine .not ?_ | (refine gD ?_; first | refine cI ?_ | refine cJ ?_ | refine cIa ?_ | refine cJa ?_ | refine cIr ?_ | refine cId ?_ | refine cJd ?_) | refine cYa ?_ | refine cNa ?_ | with_reducible refine CondN.and ?_ | with_reducible refine CondN.or ?_ | refine CondN.lt (fun hc => ?_) (fun hc => ?_) | refine CondN.le (fun hc => ?_) (fun hc => ?_) | refine CondN.dec (fun hc => ?_) (fun hc => ?_) | refine CondN.any (fun hc => ?_) (fun hc => ?_)) | (refine gW ?_; refine wI ?_) | (refine gL ?_; first | refine .map ?_ | refine .nil ?_ | refine .one ?_ | refine .app ?_ | refine .set ?_ | refine .rep ?_ | refine .any ?_) | (refine gN ?_; refine nS ?_) | (refine gI ?_; first | (refine gT ?_; first | refine iA ?_ | refine iB ?_ | refine iC fun x hx => ?_ | refine iD fun x hx => ?_) | (refine gM ?_; first | refine iE ?_ | refine iF ?_ | refine iG ?_ | refine iH fun x hx => ?_ | refine iI fun x hx => ?_) | refine iG ?_ | refine iJ ?_) | refine BothN.mk ?_ ?_ | (refine gH ?_; refine hB ?_) | (refine gA ?_; refine aP ?_) | (refine gB ?_; first | refine .last ?_ | refine .last2 ?_) | refine BxSet.last ?_ | refine BxSet.last2 ?_ | (refine gE ?_; first | refine eL ?_ | refine eLb ?_ | refine eLn ?_) | (refine gS ?_; first | refine eS ?_ | refine eSb ?_ | refine eSn ?_) | (refine gP ?_; first | refine aR fun k hk => ?_ | refine aO fun k hk => ?_ | refine aOn fun k hk => ?_) | (refine gZ ?_; refine zN fun k hk => ?_) | (refine gMp ?_; first | refine mA ?_ | refine mAq ?_) | (refine gMk ?_; first | refine mB ?_ | refine mBb ?_) | (refine gPr ?_; first | refine pE ?_ | refine pZ ?_ | refine pT ?_ | refine pN ?_ | refine pN2 ?_ | refine pS ?_) | (refine gMs ?_; first | refine mS (fun hc => ?_) (fun hc => ?_) | refine mEs ?_ | refine mEn ?_ | refine mE (fun v hc => ?_) (fun hc => ?_)) | (refine gEn ?_; refine eN ?_) | (refine gSt ?_; refine sN ?_) | refine RetP.nrm ?_ | (refine gIs ?_; refine iS ?_)) <;> conv => whnf)
  exact ⟨rfl, rfl⟩
theorem mapE_key : ∀ (l : List (Int × AV)) (i : Nat) (x : MapEntry), x ∈ mapE i l → ∃ e ∈ l, x.key = .int .i64 e.1
  | (k, y) :: l, i, x, h => by
    simp only [mapE, List.mem_cons] at h
    rcases h with rfl | h
    · exact ⟨(k, y), List.mem_cons_self .., rfl⟩
    · obtain ⟨e, h1, h2⟩ := mapE_key l (i + 1) x h
      exact ⟨e, List.mem_cons_of_mem _ h1, h2⟩
  | [], i, x, h => by simp [mapE] at h
theorem mapE_born : ∀ (l : List (Int × AV)) (i : Nat), (mapE i l).map (·.born) = List.range' i l.length
  | [], i => rfl
  | (k, y) :: l, i => by simp only [mapE, List.map_cons, mapE_born l (i + 1), List.length_cons, List.range'_succ]
theorem mapE_keys : ∀ (l : List (Int × AV)) (i : Nat), (mapE i l).map (·.key) = l.map fun e => Value.int .i64 e.1
  | [], i => rfl
  | (k, y) :: l, i => by simp only [mapE, List.map_cons, mapE_keys l (i + 1)]
theorem mapE_length : ∀ (l : List (Int × AV)) (i : Nat), (mapE i l).length = l.length
  | [], i => rfl
  | (k, y) :: l, i => by simp only [mapE, List.length_cons, mapE_length l (i + 1)]
def anyElem (v : Value) : Option (DataW Unit × List MemPlace) := some (.lit (.bool true), [])
theorem fit_mapE {P : Program} {k : TypeId} (hk : P.underlying k = some (.int .i64)) {l : List (Int × AV)} (hl : l.length ≤ maxLen) (hd : (l.map (·.1)).Nodup) (hi : ∀ e ∈ l, IntOk e.1) : Go.WideElems.Fit P k anyElem (mapE 0 l).toArray l.length := by
  refine ⟨by simpa [mapE_length] using hl, ⟨fun x hx => ?_, ?_, ?_⟩, fun x hx => ?_⟩
  · rw [List.toList_toArray] at hx
    have : x.born ∈ (mapE 0 l).map (·.born) := List.mem_map_of_mem hx
    rw [mapE_born, List.mem_range'] at this
    obtain ⟨i, h1, h2⟩ := this
    omega
  · rw [List.toList_toArray, mapE_born]; exact List.nodup_range' (step := 1)
  · rw [List.toList_toArray, mapE_keys]
    have : l.map (fun e => Value.int .i64 e.1) = (l.map (·.1)).map (Value.int .i64) := by rw [List.map_map]; rfl
    rw [this]
    exact List.Pairwise.map _ (fun a b h e => h (by simpa using e)) hd
  · rw [List.toList_toArray] at hx
    obtain ⟨e, h1, h2⟩ := mapE_key _ _ _ hx
    obtain ⟨key, val, born⟩ := x
    simp only at h2
    subst h2
    exact ⟨_, Go.WideElems.rd_mk (keyOf_int_mk hk (hi e h1).wf) rfl⟩
theorem rg_mapE {P : Program} {k : TypeId} (hk : P.underlying k = some (.int .i64)) : ∀ (l : List (Int × AV)) (i : Nat), (∀ e ∈ l, IntOk e.1) → ((mapE i l).map (Go.WideElems.rg P k anyElem)).map (fun p => Go.intOf p.1) = l.map (·.1)
  | [], i, _ => rfl
  | (n, y) :: l, i, h => by
    simp only [mapE, List.map_cons]
    rw [rg_mapE hk l (i + 1) fun e he => h e (List.mem_cons_of_mem _ he)]
    have := Go.WideElems.rg_of (Go.WideElems.rd_mk (P := P) (k := k) (R := anyElem) (born := i) (val := vOf y) (keyOf_int_mk hk (h (n, y) (List.mem_cons_self ..)).wf) rfl)
    rw [this]; rfl
set_option maxHeartbeats 1000000 in
set_option maxRecDepth 100000 in
theorem sorted_ok {l : List (Int × AV)} (hl : l.length ≤ 100000) (hd : (l.map (·.1)).Nodup) (hi : ∀ e ∈ l, IntOk e.1) : AM.Sem Try.prog 45 [.fn (.func 66) [] [.ptr 1 0]] [.mp l, .cells [.mpt 0]] fun r bs' => r = slA intA (sortL (l.map (·.1))) ∧ bs' = [.mp l, .cells [.mpt 0]] := by
  have hsl : (sortL (l.map (·.1))).length = l.length := by simp [sortL]
  refine Sem.ofRow (by rw [hsl]; first|(unfold glim;omega)|(unfold lim;omega)) fun E G a0 w args lo hs hal hv => ?_
  obtain ⟨v, rfl⟩ : ∃ v, args = [v] := by
    match args, hal with
    | [v], _ => exact ⟨v, rfl⟩
  have h0 := hv 0 (by simp) v rfl
  simp only [List.getElem_cons_zero] at h0
  obtain ⟨us, vs, rfl, h1, h2, h3, h4⟩ := h0.inv_fn
  have hus : us = [] := List.eq_nil_of_length_eq_zero (by simpa using h1)
  obtain ⟨p, rfl⟩ : ∃ p, vs = [p] := by
    match vs, h2 with
    | [p], _ => exact ⟨p, rfl⟩
  subst hus
  have h5 := h4 0 (by simp) p rfl
  simp only [List.getElem_cons_zero] at h5
  obtain ⟨rfl, hb1⟩ := h5.inv_ptr
  have hat : (⟨[], [.mp l, .cells [.mpt 0]], lo⟩ : St).at (.bx 1 0) = some (.mpt 0) := rfl
  have h6 := hs.val _ _ hat
  obtain ⟨h7, _⟩ := h6.inv_mpt
  obtain ⟨us, T, h8, h9⟩ := hs.box 1 [.mpt 0] rfl
  have hcell : w.cell? ⟨G.σ 1, 0, none⟩ = some (.map (some (G.σ 0))) := by
    simp only [valAt, World.cell?, h8] at h7 ⊢
    simp only [List.length_singleton] at h9
    simpa [show 0 < us.size by omega] using h7
  obtain ⟨h10, _⟩ := hs.sp.ob (G.σ 0) (mpLB l).obj (.inl ⟨0, mpLB l, rfl, rfl, rfl⟩)
  have h10 : w.heap[G.σ 0]? = some (.map (mapE 0 l).toArray l.length) := h10
  have hbl : G.σ 1 < w.heap.size := (Array.getElem?_eq_some_iff.1 h8).1
  have hown : w.ownsMap Try.prog 3 anyElem (G.σ 0) l.length (.map (((mapE 0 l).map (Go.WideElems.rg Try.prog 3 anyElem)).foldr DataW.insert [])) := ⟨_, _, h10, fit_mapE Try.underlying3 (by unfold maxLen; omega) hd hi, by simp [mapE_length], by rw [List.toList_toArray]⟩
  have hperm : (intKeys (.map (((mapE 0 l).map (Go.WideElems.rg Try.prog 3 anyElem)).foldr DataW.insert []) : DataW Unit)).Perm (l.map (·.1)) := by
    rw [← rg_mapE Try.underlying3 l 0 hi]
    exact (WideShapes.sorted_perm _).map _
  have hsize : Maps.size (.map (((mapE 0 l).map (Go.WideElems.rg Try.prog 3 anyElem)).foldr DataW.insert []) : DataW Unit) ≤ 100000 := by
    rw [size_eq, (WideShapes.sorted_perm _).length_eq, List.length_map, mapE_length]; exact hl
  have hseq : SeqGives Fence.wide 2 Try.prog 66 #[.pointer (some ⟨G.σ 1, 0, none⟩)] encZ _ _ w := AnyZI.keys_gives (ρ := Try.laysKeys_ren) { Try.laysKeys with } Fence.wide _ trivial rfl (by omega) (G.σ 1) (G.σ 0) _ _ _ hbl hcell hown
  have hsort : AnyZI.SortsIn Try.prog Try.laysSorted_ren Fence.wide 4 := ⟨fun blk off cap ss W hH hblk hsz => callsIn_wide.2 (Any.slices_Sort_int Try.laysSort blk off cap ss W hH hblk hsz), fun p cap W => callsIn_wide.2 (Any.slices_Sort_int_none Try.laysSort p cap W)⟩
  have cS := AnyZI.sorted_in Try.laysSorted Fence.wide 5 trivial trivial trivial trivial rfl (by omega) hsort (enters_of Try.func65 (by kernel_rfl) rfl) 66 #[.pointer (some ⟨G.σ 1, 0, none⟩)] trivial (enters_of Try.func66 (by kernel_rfl) rfl) _ _ (by unfold maxLen; omega) (by omega) _ hseq
  refine (callsIn_wide (n := 5)).1 (CallsIn.mono cS ?_)
  rintro e w' ⟨v, ss, rfl, hS, h11, _, h12⟩
  have hss : ss.mergeSort (fun x y => decide (x ≤ y)) = sortL (l.map (·.1)) := mergeSort_of_perm_i (hS.trans hperm)
  rw [hss] at h11
  have : ss.length = (sortL (l.map (·.1))).length := by rw [hsl, (hS.trans hperm).length_eq, List.length_map]
  rw [this] at h11
  exact ⟨v, _, rfl, h11, h12⟩
end Go.CK

