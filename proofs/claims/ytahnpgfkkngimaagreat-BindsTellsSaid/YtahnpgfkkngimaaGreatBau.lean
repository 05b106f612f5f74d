/-
  Texts of this aQ joined (wip/gen/bundle.py),those declarations only that are needed:RcTrm TrmA TrmB TrmC. By an AI agent.
-/
import Derived.Test.YtahnpgfkkngimaaGreatProg
import Derived.Test.YtahnpgfkkngimaaGreatBap
import Derived.Test.YtahnpgfkkngimaaGreatBar
import Derived.Test.YtahnpgfkkngimaaGreatBat
set_option linter.unusedSimpArgs false
set_option linter.unusedVariables false
namespace Go.CK
open Go.AM Go.Proofs
abbrev rR (k:List Nat) (o:List ROp):RC:=.reg false k o
abbrev cF (n:Nat) (a:List Opd):RX:=.call (.c (.fn (.func n) [] [])) a
abbrev oQ (d:Nat) (x:RX):ROp:=⟨some d,none,x⟩
abbrev oG (d g:Nat) (b:Bool) (x:RX):ROp:=⟨some d,some (g,b),x⟩
abbrev oN (x:RX):ROp:=⟨none,none,x⟩
abbrev qM (d a:Nat):ROp:=oQ d (.mov (.t a))
abbrev qK (d a:Nat):ROp:=oQ d (.iR (.t a))
abbrev qF (d k a:Nat):ROp:=oQ d (.aT k (.t a))
abbrev qL (d a:Nat):ROp:=oQ d (.load false 1 (.t a))
abbrev qA (d z a:Nat):ROp:=oQ d (.load true z (.t a))
abbrev qI (d z a b:Nat):ROp:=oQ d (.idx z (.t a) (.t b))
abbrev SP (P:Program) (b:Bool) (vals:List AV) (bs:List Box) (c:RC) (rs:List cm) (Q:AV->List Box->Prop):Prop:=(⟨params 0 vals,bs,bs.length⟩:St).fo b fun s=>c.gp P b s (KW rs Q)
theorem oZ {P:Program} {f:FuncId} {fn:Func} {c:Code} {rc:RC} {keeps:List (Nat×List Nat)} {solo:List (Nat×Nat)} {rs:List cm} {fb:Bool} {vals:List AV} {bs:List Box} {Q:AV→List Box→Prop} (hf:P.funcs[f]?=some fn) (hb:fn.body=some c) (hn:vals.length≤fn.ntmps) (h:SP P fb vals bs rc rs Q) (hm:P.follows .mixedOrders=true:=by kernel_rfl) (hc:dR P fn.ntmps keeps solo true c=some rc:=by kernel_rfl) (hr:lX P fn.results.toList=some rs:=by kernel_rfl):AM.Sem P f vals bs Q:=Sem.nrm (Sem.of hf hb hm hc hr hn (JW h))
variable {vals:List AV} {bs:List Box} {Q:AV->List Box->Prop}
def wa:RC:=
 (.seq
 (rR [0] [
 oQ 2 (.mov (.c (.int .i64 0)))])
 (.seq
 (rR [0,3] [
 oQ 3 (.mov (.c (.int .i64 0)))])
 (.seq
 (.seq
 (rR [3,6,7,8] [
 qM 6 0,oQ 7 (.len false (.t 6)),oQ 8 (.mov (.c (.int .i64 0)))])
 (.block 0
 (.loop
 (.seq
 (rR [3,6,7,8,9] [
 oQ 9 (.bin .lss (.t 8) (.t 7))])
 (.seq
 (.cond (.t 9)
 .skip
 (.exit 0))
 (.seq
 (.block 1
 (.seq
 (rR [3,5,6,7,8] [
 qI 10 1 6 8,qL 11 10,qM 5 11])
 (.seq
 (rR [3,5,6,7,8,14] [
 qM 12 5,qM 13 3,oQ 14 (.bin .neq (.t 12) (.t 13))])
 (.cond (.t 14)
 (.seq
 (rR [2] [
 qM 15 5,qM 2 15])
 .ret)
 .skip))))
 (rR [3,6,7,8] [
 oQ 16 (.bin .add (.t 8) (.c (.int .i64 1))),qM 8 16])))))))
 (.seq
 (rR [2] [
 qM 17 3,qM 2 17])
 .ret))))
theorem wq (hn:vals.length≤18) (h:SP Tryz.prog true vals bs wa [.slot 2] Q):AM.Sem Tryz.prog 124 vals bs Q:=
 oZ (keeps:=[(0,[0]),(1,[0,3]),(2,[3,6,7,8]),(3,[3,6,7,8,9]),(4,[3,5,6,7,8]),(5,[3,5,6,7,8,14]),(6,[2]),(7,[3,6,7,8]),(8,[2])]) (solo:=[]) Tryz.func124 rfl hn h
def mr:RC:=
 (.seq
 (rR [0,1] [
 oQ 4 (.mov (.c (.int .i64 0)))])
 (.seq
 (rR [0,1,5] [
 qM 7 0,oQ 8 (cF 158 [(.t 7)]),qM 5 8])
 (.seq
 (rR [0,1,5,6] [
 qM 9 1,oQ 10 (cF 158 [(.t 9)]),qM 6 10])
 (.seq
 (.seq
 (rR [0,1,6,11] [
 qM 11 5])
 (.cond (.t 11)
 (.seq
 (.seq
 (rR [12] [
 qM 12 6])
 (.cond (.t 12)
 (.seq
 (rR [4] [
 oQ 4 (.mov (.c (.int .i64 0)))])
 .ret)
 .skip))
 (.seq
 (rR [4] [
 oQ 4 (.mov (.c (.int .i64 (-1))))])
 .ret))
 .skip))
 (.seq
 (.seq
 (rR [0,1,13] [
 qM 13 6])
 (.cond (.t 13)
 (.seq
 (rR [4] [
 oQ 4 (.mov (.c (.int .i64 1)))])
 .ret)
 .skip))
 (.seq
 (.seq
 (rR [0,1,16] [
 qM 14 0,qM 15 1,oQ 16 (.bin .lss (.t 14) (.t 15))])
 (.cond (.t 16)
 (.seq
 (rR [4] [
 oQ 4 (.mov (.c (.int .i64 (-1))))])
 .ret)
 .skip))
 (.seq
 (.seq
 (rR [19] [
 qM 17 0,qM 18 1,oQ 19 (.bin .gtr (.t 17) (.t 18))])
 (.cond (.t 19)
 (.seq
 (rR [4] [
 oQ 4 (.mov (.c (.int .i64 1)))])
 .ret)
 .skip))
 (.seq
 (rR [4] [
 oQ 4 (.mov (.c (.int .i64 0)))])
 .ret))))))))
theorem my (hn:vals.length≤20) (h:SP Tryz.prog true vals bs mr [.slot 4] Q):AM.Sem Tryz.prog 123 vals bs Q:=
 oZ (keeps:=[(0,[0,1]),(1,[0,1,5]),(2,[0,1,5,6]),(3,[0,1,6,11]),(4,[12]),(5,[4]),(6,[4]),(7,[0,1,13]),(8,[4]),(9,[0,1,16]),(10,[4]),(11,[19]),(12,[4]),(13,[4])]) (solo:=[]) Tryz.func123 rfl hn h
def oW:RC:=
 (.seq
 (rR [0,1] [
 oQ 4 (.mov (.c (.int .i64 0)))])
 (.seq
 (rR [0,1,5] [
 qM 7 0,oQ 8 (cF 157 [(.t 7)]),qM 5 8])
 (.seq
 (rR [0,1,5,6] [
 qM 9 1,oQ 10 (cF 157 [(.t 9)]),qM 6 10])
 (.seq
 (.seq
 (rR [0,1,6,11] [
 qM 11 5])
 (.cond (.t 11)
 (.seq
 (.seq
 (rR [12] [
 qM 12 6])
 (.cond (.t 12)
 (.seq
 (rR [4] [
 oQ 4 (.mov (.c (.int .i64 0)))])
 .ret)
 .skip))
 (.seq
 (rR [4] [
 oQ 4 (.mov (.c (.int .i64 (-1))))])
 .ret))
 .skip))
 (.seq
 (.seq
 (rR [0,1,13] [
 qM 13 6])
 (.cond (.t 13)
 (.seq
 (rR [4] [
 oQ 4 (.mov (.c (.int .i64 1)))])
 .ret)
 .skip))
 (.seq
 (.seq
 (rR [0,1,16] [
 qM 14 0,qM 15 1,oQ 16 (.bin .lss (.t 14) (.t 15))])
 (.cond (.t 16)
 (.seq
 (rR [4] [
 oQ 4 (.mov (.c (.int .i64 (-1))))])
 .ret)
 .skip))
 (.seq
 (.seq
 (rR [19] [
 qM 17 0,qM 18 1,oQ 19 (.bin .gtr (.t 17) (.t 18))])
 (.cond (.t 19)
 (.seq
 (rR [4] [
 oQ 4 (.mov (.c (.int .i64 1)))])
 .ret)
 .skip))
 (.seq
 (rR [4] [
 oQ 4 (.mov (.c (.int .i64 0)))])
 .ret))))))))
theorem o0 (hn:vals.length≤20) (h:SP Tryz.prog true vals bs oW [.slot 4] Q):AM.Sem Tryz.prog 121 vals bs Q:=
 oZ (keeps:=[(0,[0,1]),(1,[0,1,5]),(2,[0,1,5,6]),(3,[0,1,6,11]),(4,[12]),(5,[4]),(6,[4]),(7,[0,1,13]),(8,[4]),(9,[0,1,16]),(10,[4]),(11,[19]),(12,[4]),(13,[4])]) (solo:=[]) Tryz.func121 rfl hn h
def qO:RC:=
 (.seq
 (rR [0] [
 oQ 2 (.mov (.c (.bool false)))])
 (.seq
 (rR [2] [
 qM 3 0,qM 4 0,oQ 5 (.bin .neq (.t 3) (.t 4)),qM 2 5])
 .ret))
theorem qW (hn:vals.length≤6) (h:SP Tryz.prog true vals bs qO [.slot 2] Q):AM.Sem Tryz.prog 157 vals bs Q:=
 oZ (keeps:=[(0,[0]),(1,[2])]) (solo:=[]) Tryz.func157 rfl hn h
def ot:RC:=
 (.seq
 (rR [0] [
 oQ 2 (.mov (.c (.bool false)))])
 (.seq
 (rR [2] [
 qM 3 0,qM 4 0,oQ 5 (.bin .neq (.t 3) (.t 4)),qM 2 5])
 .ret))
theorem ov (hn:vals.length≤6) (h:SP Tryz.prog true vals bs ot [.slot 2] Q):AM.Sem Tryz.prog 158 vals bs Q:=
 oZ (keeps:=[(0,[0]),(1,[2])]) (solo:=[]) Tryz.func158 rfl hn h
def sG:RC:=
 (.seq
 (rR [2,3] [
 oQ 2 (.box (.t 0)),oQ 3 (.box (.t 1)),oQ 4 (.mov (.c (.int .i64 0)))])
 (.seq
 (.seq
 (.reg true [2,3,5] [
 qF 8 0 2,qL 9 8,oQ 10 (cF 122 [(.t 9)]),qF 11 0 3,qL 12 11,oQ 13 (cF 122 [(.t 12)]),oQ 14 (cF 121 [(.t 10),(.t 13)]),oQ 5 (.take 14)])
 (.seq
 (rR [2,3,5,16] [
 qM 15 5,oQ 16 (.bin .neq (.t 15) (.c (.int .i64 0)))])
 (.cond (.t 16)
 (.seq
 (rR [4] [
 qM 17 5,qM 4 17])
 .ret)
 .skip)))
 (.seq
 (.seq
 (rR [2,3,20] [
 qF 18 0 2,qL 19 18,oQ 20 (cF 122 [(.t 19)])])
 (.block 0
 (.seq
 (.seq
 (rR [2,3,20,21] [
 oQ 22 (.bin .eql (.t 20) (.c (.int .i64 0))),qM 21 22])
 (.cond (.t 21)
 .skip
 (rR [2,3,20,21] [
 oQ 23 (.bin .eql (.t 20) (.c (.int .i64 1))),qM 21 23])))
 (.cond (.t 21)
 (.seq
 (rR [4] [
 qF 24 1 2,qL 25 24,qF 26 1 3,qL 27 26,oQ 28 (cF 121 [(.t 25),(.t 27)]),qM 4 28])
 .ret)
 (.seq
 (rR [2,3,29] [
 oQ 30 (.bin .eql (.t 20) (.c (.int .i64 2))),qM 29 30])
 (.cond (.t 29)
 (.seq
 (.seq
 (rR [2,3,6] [
 qF 31 3 2,qL 32 31,oQ 33 (.len false (.t 32)),qF 34 3 3,qL 35 34,oQ 36 (.len false (.t 35)),oQ 37 (cF 121 [(.t 33),(.t 36)]),qM 6 37])
 (.seq
 (rR [2,3,6,39] [
 qM 38 6,oQ 39 (.bin .neq (.t 38) (.c (.int .i64 0)))])
 (.cond (.t 39)
 (.seq
 (rR [4] [
 qM 40 6,qM 4 40])
 .ret)
 .skip)))
 (.seq
 (.seq
 (rR [2,3,7] [
 qF 41 2 2,qL 42 41,qF 43 2 3,qL 44 43,oQ 45 (cF 123 [(.t 42),(.t 44)]),qM 7 45])
 (.seq
 (rR [2,3,7,47] [
 qM 46 7,oQ 47 (.bin .neq (.t 46) (.c (.int .i64 0)))])
 (.cond (.t 47)
 (.seq
 (rR [4] [
 qM 48 7,qM 4 48])
 .ret)
 .skip)))
 (.seq
 (rR [4] [
 qF 49 3 2,qL 50 49,qF 51 3 3,qL 52 51,oQ 53 (cF 103 [(.t 50),(.t 52)]),qM 4 53])
 .ret)))
 .skip))))))
 (.seq
 (.reg true [4] [
 qF 54 0 2,qL 55 54,qF 56 0 3,qL 57 56,oQ 58 (cF 121 [(.t 55),(.t 57)]),qF 59 1 2,qL 60 59,qF 61 1 3,qL 62 61,oQ 63 (cF 121 [(.t 60),(.t 62)]),qF 64 2 2,qL 65 64,qF 66 2 3,qL 67 66,oQ 68 (cF 123 [(.t 65),(.t 67)]),oQ 69 (.aG 1 [(.t 58),(.t 63),(.t 68)]),oQ 70 (cF 124 [(.t 69)]),oQ 4 (.take 70)])
 .ret))))
theorem sK (hn:vals.length≤71) (h:SP Tryz.prog true vals bs sG [.slot 4] Q):AM.Sem Tryz.prog 86 vals bs Q:=
 oZ (keeps:=[(0,[2,3]),(1,[2,3,5]),(2,[2,3,5,16]),(3,[4]),(4,[2,3,20]),(5,[2,3,20,21]),(6,[2,3,20,21]),(8,[2,3,29]),(9,[2,3,6]),(10,[2,3,6,39]),(11,[4]),(12,[2,3,7]),(13,[2,3,7,47]),(14,[4]),(15,[4]),(7,[4]),(16,[4])]) (solo:=[]) Tryz.func86 rfl hn h
def yE:RC:=
 (.seq
 (rR [1] [
 oQ 1 (.box (.t 0)),oQ 2 (.mov (.c (.sl .full [])))])
 (.seq
 (.seq
 (rR [1,5] [
 qF 3 0 1,qL 4 3,oQ 5 (.bin .eql (.t 4) (.c (.int .i64 2)))])
 (.cond (.t 5)
 (.seq
 (rR [2] [
 qF 6 3 1,qL 7 6,qM 2 7])
 .ret)
 .skip))
 (.seq
 (rR [2] [
 oQ 2 (.mov (.c (.sl .full [])))])
 .ret)))
theorem yM (hn:vals.length≤8) (h:SP Tryz.prog true vals bs yE [.slot 2] Q):AM.Sem Tryz.prog 167 vals bs Q:=
 oZ (keeps:=[(0,[1]),(1,[1,5]),(2,[2]),(3,[2])]) (solo:=[]) Tryz.func167 rfl hn h
def yC:RC:=
 (.seq
 (rR [0,1] [
 oQ 4 (.mov (.c (.int .i64 0)))])
 (.seq
 (.seq
 (rR [0,1,8,9] [
 qM 7 0,oQ 8 (.len false (.t 7)),oQ 9 (.mov (.c (.int .i64 0)))])
 (.block 0
 (.loop
 (.seq
 (rR [0,1,8,9,10] [
 oQ 10 (.bin .lss (.t 9) (.t 8))])
 (.seq
 (.cond (.t 10)
 .skip
 (.exit 0))
 (.seq
 (.block 1
 (.seq
 (rR [0,1,5,8,9] [
 qM 11 9,qM 5 11])
 (.seq
 (.reg true [0,1,6,8,9] [
 qM 12 0,qM 13 5,qI 14 4 12 13,qA 15 4 14,qM 16 1,qM 17 5,qI 18 4 16 17,qA 19 4 18,oQ 20 (cF 86 [(.t 15),(.t 19)]),oQ 6 (.take 20)])
 (.seq
 (rR [0,1,6,8,9,22] [
 qM 21 6,oQ 22 (.bin .neq (.t 21) (.c (.int .i64 0)))])
 (.cond (.t 22)
 (.seq
 (rR [4] [
 qM 23 6,qM 4 23])
 .ret)
 .skip)))))
 (rR [0,1,8,9] [
 oQ 24 (.bin .add (.t 9) (.c (.int .i64 1))),qM 9 24])))))))
 (.seq
 (rR [4] [
 oQ 4 (.mov (.c (.int .i64 0)))])
 .ret)))
theorem yK (hn:vals.length≤25) (h:SP Tryz.prog true vals bs yC [.slot 4] Q):AM.Sem Tryz.prog 103 vals bs Q:=
 oZ (keeps:=[(0,[0,1]),(1,[0,1,8,9]),(2,[0,1,8,9,10]),(3,[0,1,5,8,9]),(4,[0,1,6,8,9]),(5,[0,1,6,8,9,22]),(6,[4]),(7,[0,1,8,9]),(8,[4])]) (solo:=[]) Tryz.func103 rfl hn h
def yA:RC:=
 (.seq
 (rR [0] [
 oQ 2 (.mov (.c (.int .i64 0)))])
 (.seq
 (.seq
 (rR [3] [
 qM 3 0])
 (.block 0
 (.seq
 (rR [3,4] [
 oQ 5 (.bin .eql (.t 3) (.c (.int .i64 1))),qM 4 5])
 (.cond (.t 4)
 (.seq
 (rR [2] [
 oQ 2 (.mov (.c (.int .i64 0)))])
 .ret)
 (.seq
 (rR [3,6] [
 oQ 7 (.bin .eql (.t 3) (.c (.int .i64 0))),qM 6 7])
 (.cond (.t 6)
 (.seq
 (rR [2] [
 oQ 2 (.mov (.c (.int .i64 1)))])
 .ret)
 (.seq
 (rR [8] [
 oQ 9 (.bin .eql (.t 3) (.c (.int .i64 2))),qM 8 9])
 (.cond (.t 8)
 (.seq
 (rR [2] [
 oQ 2 (.mov (.c (.int .i64 2)))])
 .ret)
 .skip))))))))
 (.seq
 (rR [2] [
 oQ 2 (.mov (.c (.int .i64 3)))])
 .ret)))
theorem yI (hn:vals.length≤10) (h:SP Tryz.prog true vals bs yA [.slot 2] Q):AM.Sem Tryz.prog 122 vals bs Q:=
 oZ (keeps:=[(0,[0]),(1,[3]),(2,[3,4]),(4,[3,6]),(6,[8]),(7,[2]),(5,[2]),(3,[2]),(8,[2])]) (solo:=[]) Tryz.func122 rfl hn h
def yB:RC:=
 (.seq
 (rR [0,2] [
 oQ 2 (.mov (.c (.sl .full [])))])
 (.seq
 (rR [0,2,3] [
 oQ 3 (.box (.c (.sl .full [])))])
 (.seq
 (rR [0,2,3,4] [
 oQ 6 (.eff .mkM []),oQ 4 (.box (.c .nmp)),oN (.store 1 (.t 4) (.t 6))])
 (.seq
 (.seq
 (rR [2,3,4,7] [
 qM 7 0])
 (.block 0
 (.range (.t 7) [8]
 (rR [3,4,5] [
 qM 5 8])
 (.block 1
 (.seq
 (rR [3,4,5,12] [
 qL 9 4,qM 10 5,oQ 11 (.eff (.getM false (.bool false)) [(.t 9),(.t 10)]),oQ 12 (.un .not (.t 11))])
 (.cond (.t 12)
 (.seq
 (rR [3,5] [
 qL 13 4,qM 14 5,oN (.eff .vV [(.t 13),(.t 14),(.c (.bool true))])])
 (rR [] [
 qL 15 3,qM 16 5,oQ 17 (.aG 1 [(.t 16)]),oQ 18 (.append 1 (.t 15) (.t 17)),oN (.store 1 (.t 3) (.t 18))]))
 .skip))))))
 (.seq
 (rR [2] [
 qL 19 3,qM 2 19])
 .ret)))))
theorem yJ (hn:vals.length≤20) (h:SP Tryz.prog true vals bs yB [.slot 2] Q):AM.Sem Tryz.prog 141 vals bs Q:=
 oZ (keeps:=[(0,[0,2]),(1,[0,2,3]),(2,[0,2,3,4]),(3,[2,3,4,7]),(4,[3,4,5]),(5,[3,4,5,12]),(6,[3,5]),(7,[]),(8,[2])]) (solo:=[]) Tryz.func141 rfl hn h
def yD:RC:=
 (.seq
 (rR [1] [
 oQ 1 (.box (.t 0)),oQ 2 (.mov (.c .nfn))])
 (.seq
 (rR [2] [
 oQ 3 (.ug (.func 131) [] [(.t 1)]),qM 2 3])
 .ret))
theorem yL (hn:vals.length≤4) (h:SP Tryz.prog true vals bs yD [.slot 2] Q):AM.Sem Tryz.prog 97 vals bs Q:=
 oZ (keeps:=[(0,[1]),(1,[2])]) (solo:=[]) Tryz.func97 rfl hn h
def yF:RC:=
 (.seq
 (rR [1] [
 oQ 1 (.box (.t 0)),oQ 2 (.mov (.c (.sl .full [])))])
 (.seq
 (rR [2] [
 qA 3 4 1,oQ 4 (.aG 4 [(.t 3)]),oQ 5 (cF 97 [(.t 4)]),oQ 6 (cF 141 [(.t 5)]),qM 2 6])
 .ret))
theorem yN (hn:vals.length≤7) (h:SP Tryz.prog true vals bs yF [.slot 2] Q):AM.Sem Tryz.prog 110 vals bs Q:=
 oZ (keeps:=[(0,[1]),(1,[2])]) (solo:=[]) Tryz.func110 rfl hn h
def yG:RC:=
 (.seq
 (rR [2,3] [
 oQ 2 (.box (.t 0)),oQ 3 (.box (.t 1)),oQ 4 (.mov (.c (.bool false)))])
 (.seq
 (rR [4] [
 qA 5 4 2,qA 6 4 3,oQ 7 (cF 86 [(.t 5),(.t 6)]),oQ 8 (.bin .eql (.t 7) (.c (.int .i64 0))),qM 4 8])
 .ret))
theorem yO (hn:vals.length≤9) (h:SP Tryz.prog true vals bs yG [.slot 4] Q):AM.Sem Tryz.prog 46 vals bs Q:=
 oZ (keeps:=[(0,[2,3]),(1,[4])]) (solo:=[]) Tryz.func46 rfl hn h
def zZ:RC:=
 (.seq
 (rR [0,2] [
 oQ 2 (.box (.c (.agg [(.int .i64 0),(.int .i64 0),(.str ⟨⟨[]⟩⟩),(.sl .full [])])))])
 (.seq
 (rR [2] [
 qM 3 0,oQ 4 (.build [(.int .i64 0),(.int .i64 0),(.str ⟨⟨[]⟩⟩),(.sl .full [])] [(0,1,(.c (.int .i64 0))),(1,1,(.t 3))]),oN (.store 4 (.t 2) (.t 4))])
 .ret))
theorem Ai (hn:vals.length≤5) (h:SP Tryz.prog true vals bs zZ [.cell 2 true 4] Q):AM.Sem Tryz.prog 50 vals bs Q:=
 oZ (keeps:=[(0,[0,2]),(1,[2])]) (solo:=[]) Tryz.func50 rfl hn h
def zY:RC:=
 (.seq
 (rR [0,2] [
 oQ 2 (.box (.c (.agg [(.int .i64 0),(.int .i64 0),(.str ⟨⟨[]⟩⟩),(.sl .full [])])))])
 (.seq
 (rR [2] [
 qM 3 0,oQ 4 (.build [(.int .i64 0),(.int .i64 0),(.str ⟨⟨[]⟩⟩),(.sl .full [])] [(0,1,(.c (.int .i64 1))),(1,1,(.t 3))]),oN (.store 4 (.t 2) (.t 4))])
 .ret))
theorem Ah (hn:vals.length≤5) (h:SP Tryz.prog true vals bs zY [.cell 2 true 4] Q):AM.Sem Tryz.prog 81 vals bs Q:=
 oZ (keeps:=[(0,[0,2]),(1,[2])]) (solo:=[]) Tryz.func81 rfl hn h
def tC:RC:=
 (.seq
 (rR [0,1,5,6] [
 qL 4 1,oQ 5 (.len false (.t 4)),oQ 6 (.mov (.c (.int .i64 0)))])
 (.block 0
 (.loop
 (.seq
 (rR [0,1,5,6,7] [
 oQ 7 (.bin .lss (.t 6) (.t 5))])
 (.seq
 (.cond (.t 7)
 .skip
 (.exit 0))
 (.seq
 (.block 1
 (.seq
 (rR [0,1,3,5,6] [
 qM 8 6,qM 3 8])
 (.seq
 (rR [0,1,5,6,15] [
 qL 9 1,qM 10 3,qI 11 4 9 10,qA 12 4 11,qM 13 0,oQ 14 (cF 132 [(.t 12),(.t 13)]),oQ 15 (.un .not (.t 14))])
 (.cond (.t 15)
 .ret
 .skip))))
 (rR [0,1,5,6] [
 oQ 16 (.bin .add (.t 6) (.c (.int .i64 1))),qM 6 16])))))))
def yz:RC:=
 (.seq
 (rR [1,2] [
 oQ 2 (.box (.t 0)),oQ 4 (.mov (.c (.bool false)))])
 (.seq
 (.seq
 (rR [1,2,9] [
 qF 7 0 2,qL 8 7,oQ 9 (.bin .eql (.t 8) (.c (.int .i64 1)))])
 (.cond (.t 9)
 (.seq
 (rR [4] [
 qM 10 1,qF 11 1 2,qL 12 11,oQ 13 (.dD (.t 10) [(.t 12)]),qM 4 13])
 .ret)
 .skip))
 (.seq
 (.seq
 (rR [1,15,16,17] [
 qA 14 4 2,oQ 15 (cF 167 [(.t 14)]),oQ 16 (.len false (.t 15)),oQ 17 (.mov (.c (.int .i64 0)))])
 (.block 0
 (.loop
 (.seq
 (rR [1,15,16,17,18] [
 oQ 18 (.bin .lss (.t 17) (.t 16))])
 (.seq
 (.cond (.t 18)
 .skip
 (.exit 0))
 (.seq
 (.block 1
 (.seq
 (rR [1,6,15,16,17] [
 qI 19 4 15 17,qA 20 4 19,oQ 6 (.box (.c (.agg [(.int .i64 0),(.int .i64 0),(.str ⟨⟨[]⟩⟩),(.sl .full [])]))),oN (.store 4 (.t 6) (.t 20))])
 (.seq
 (rR [1,15,16,17,24] [
 qA 21 4 6,qM 22 1,oQ 23 (cF 132 [(.t 21),(.t 22)]),oQ 24 (.un .not (.t 23))])
 (.cond (.t 24)
 (.seq
 (rR [4] [
 oQ 4 (.mov (.c (.bool false)))])
 .ret)
 .skip))))
 (rR [1,15,16,17] [
 oQ 25 (.bin .add (.t 17) (.c (.int .i64 1))),qM 17 25])))))))
 (.seq
 (rR [4] [
 oQ 4 (.mov (.c (.bool true)))])
 .ret))))
def kg:RC:=
 (.seq
 (rR [0,3] [
 oQ 3 (.box (.t 1)),oQ 4 (.mov (.c (.sl .full [])))])
 (.seq
 (.seq
 (rR [0,3,16] [
 qF 7 0 3,qL 8 7,oQ 9 (.bin .eql (.t 8) (.c (.int .i64 1))),qM 10 9,oG 11 10 true (.mov (.t 0)),oG 12 10 true (.aT 1 (.t 3)),oG 13 10 true (.load false 1 (.t 12)),oG 14 10 true (cF 168 [(.t 11),(.t 13)]),oG 15 10 true (.un .not (.t 14)),oQ 16 (.pick (.t 10) (.t 15) (.c (.bool false)))])
 (.cond (.t 16)
 (rR [0,3] [
 qM 17 0,qF 18 1 3,qL 19 18,oQ 20 (.aG 1 [(.t 19)]),oQ 21 (.eff (.mG 1) [(.t 17),(.t 20)]),qM 0 21])
 .skip))
 (.seq
 (rR [0,5] [
 qA 22 4 3,oQ 23 (cF 136 [(.t 22)]),qM 5 23])
 (.seq
 (.seq
 (rR [0,5,6] [
 oQ 6 (.mov (.c (.int .i64 0)))])
 (.block 0
 (.loop
 (.seq
 (.seq
 (rR [0,5,6,27] [
 qM 24 6,qM 25 5,oQ 26 (.len false (.t 25)),oQ 27 (.bin .lss (.t 24) (.t 26))])
 (.cond (.t 27)
 .skip
 (.exit 0)))
 (.seq
 (.block 1
 (rR [0,5,6] [
 qM 30 0,qM 31 5,qM 32 6,qI 33 4 31 32,qA 34 4 33,oQ 35 (cF 134 [(.t 30),(.t 34)]),qM 0 35]))
 (rR [0,5,6] [
 qM 28 6,oQ 29 (.bin .add (.t 28) (.c (.int .i64 1))),qM 6 29]))))))
 (.seq
 (rR [4] [
 qM 36 0,qM 4 36])
 .ret)))))
def ku:RC:=
 (.seq
 (rR [1] [
 oQ 1 (.box (.t 0)),oQ 2 (.mov (.c (.sl .full [])))])
 (.seq
 (rR [2] [
 qA 3 4 1,oQ 4 (cF 134 [(.c (.sl .full [])),(.t 3)]),qM 2 4])
 .ret))
def hG:RC:=
 (.seq
 (rR [2,3] [
 oQ 2 (.box (.t 0)),oQ 3 (.box (.t 1)),oQ 4 (.mov (.c (.int .i64 0)))])
 (.seq
 (.reg true [2,3,5] [
 qA 6 4 2,oQ 7 (cF 118 [(.t 6)]),qA 8 4 3,oQ 9 (cF 118 [(.t 8)]),oQ 10 (cF 117 [(.t 7),(.t 9)]),oQ 5 (.take 10)])
 (.seq
 (.seq
 (rR [2,3,5,12] [
 qM 11 5,oQ 12 (.bin .neq (.t 11) (.c (.int .i64 0)))])
 (.cond (.t 12)
 (.seq
 (rR [4] [
 qM 13 5,qM 4 13])
 .ret)
 .skip))
 (.seq
 (.seq
 (rR [2,3,15] [
 qA 14 4 2,oQ 15 (cF 118 [(.t 14)])])
 (.block 0
 (.seq
 (.seq
 (rR [2,3,15,16] [
 oQ 17 (.bin .eql (.t 15) (.c (.int .i64 0))),qM 16 17])
 (.cond (.t 16)
 .skip
 (rR [2,3,15,16] [
 oQ 18 (.bin .eql (.t 15) (.c (.int .i64 1))),qM 16 18])))
 (.cond (.t 16)
 (.seq
 (rR [4] [
 qF 19 1 2,qL 20 19,qF 21 1 3,qL 22 21,oQ 23 (cF 117 [(.t 20),(.t 22)]),qM 4 23])
 .ret)
 (.seq
 (rR [2,3,24] [
 oQ 25 (.bin .eql (.t 15) (.c (.int .i64 2))),qM 24 25])
 (.cond (.t 24)
 (.seq
 (rR [2,3,5] [
 qF 26 3 2,qL 27 26,oQ 28 (.len false (.t 27)),qF 29 3 3,qL 30 29,oQ 31 (.len false (.t 30)),oQ 32 (cF 117 [(.t 28),(.t 31)]),qM 5 32])
 (.seq
 (.seq
 (rR [2,3,5,34] [
 qM 33 5,oQ 34 (.bin .eql (.t 33) (.c (.int .i64 0)))])
 (.cond (.t 34)
 (rR [2,3,5] [
 qF 35 2 2,qL 36 35,qF 37 2 3,qL 38 37,oQ 39 (cF 119 [(.t 36),(.t 38)]),qM 5 39])
 .skip))
 (.seq
 (.seq
 (rR [2,3,5,41] [
 qM 40 5,oQ 41 (.bin .eql (.t 40) (.c (.int .i64 0)))])
 (.cond (.t 41)
 (rR [5] [
 qF 42 3 2,qL 43 42,qF 44 3 3,qL 45 44,oQ 46 (cF 120 [(.t 43),(.t 45)]),qM 5 46])
 .skip))
 (.seq
 (rR [4] [
 qM 47 5,qM 4 47])
 .ret))))
 .skip))))))
 (.seq
 (rR [2,3,5] [
 qF 48 0 2,qL 49 48,qF 50 0 3,qL 51 50,oQ 52 (cF 117 [(.t 49),(.t 51)]),qM 5 52])
 (.seq
 (.seq
 (rR [2,3,5,54] [
 qM 53 5,oQ 54 (.bin .eql (.t 53) (.c (.int .i64 0)))])
 (.cond (.t 54)
 (rR [2,3,5] [
 qF 55 1 2,qL 56 55,qF 57 1 3,qL 58 57,oQ 59 (cF 117 [(.t 56),(.t 58)]),qM 5 59])
 .skip))
 (.seq
 (.seq
 (rR [2,3,5,61] [
 qM 60 5,oQ 61 (.bin .eql (.t 60) (.c (.int .i64 0)))])
 (.cond (.t 61)
 (rR [5] [
 qF 62 2 2,qL 63 62,qF 64 2 3,qL 65 64,oQ 66 (cF 119 [(.t 63),(.t 65)]),qM 5 66])
 .skip))
 (.seq
 (rR [4] [
 qM 67 5,qM 4 67])
 .ret))))))))
theorem hZ (hn:vals.length≤68) (h:SP Tryz.prog true vals bs hG [.slot 4] Q):AM.Sem Tryz.prog 85 vals bs Q:=
 oZ (keeps:=[(0,[2,3]),(1,[2,3,5]),(2,[2,3,5,12]),(3,[4]),(4,[2,3,15]),(5,[2,3,15,16]),(6,[2,3,15,16]),(8,[2,3,24]),(9,[2,3,5]),(10,[2,3,5,34]),(11,[2,3,5]),(12,[2,3,5,41]),(13,[5]),(14,[4]),(7,[4]),(15,[2,3,5]),(16,[2,3,5,54]),(17,[2,3,5]),(18,[2,3,5,61]),(19,[5]),(20,[4])]) (solo:=[]) Tryz.func85 rfl hn h
def kq:RC:=
 (.seq
 (rR [1] [
 oQ 1 (.box (.t 0)),oQ 2 (.mov (.c (.sl .full [])))])
 (.seq
 (.seq
 (rR [1,5] [
 qF 3 0 1,qL 4 3,oQ 5 (.bin .eql (.t 4) (.c (.int .i64 2)))])
 (.cond (.t 5)
 (.seq
 (rR [2] [
 qF 6 3 1,qL 7 6,qM 2 7])
 .ret)
 .skip))
 (.seq
 (rR [2] [
 oQ 2 (.mov (.c (.sl .full [])))])
 .ret)))
theorem kH (hn:vals.length≤8) (h:SP Tryz.prog true vals bs kq [.slot 2] Q):AM.Sem Tryz.prog 136 vals bs Q:=
 oZ (keeps:=[(0,[1]),(1,[1,5]),(2,[2]),(3,[2])]) (solo:=[]) Tryz.func136 rfl hn h
def jv:RC:=
 (.seq
 (rR [1] [
 oQ 1 (.box (.t 0)),oQ 2 (.mov (.c (.int .i64 0)))])
 (.seq
 (.seq
 (rR [4] [
 qF 3 0 1,qL 4 3])
 (.block 0
 (.seq
 (rR [4,5] [
 oQ 6 (.bin .eql (.t 4) (.c (.int .i64 1))),qM 5 6])
 (.cond (.t 5)
 (.seq
 (rR [2] [
 oQ 2 (.mov (.c (.int .i64 0)))])
 .ret)
 (.seq
 (rR [4,7] [
 oQ 8 (.bin .eql (.t 4) (.c (.int .i64 0))),qM 7 8])
 (.cond (.t 7)
 (.seq
 (rR [2] [
 oQ 2 (.mov (.c (.int .i64 1)))])
 .ret)
 (.seq
 (rR [9] [
 oQ 10 (.bin .eql (.t 4) (.c (.int .i64 2))),qM 9 10])
 (.cond (.t 9)
 (.seq
 (rR [2] [
 oQ 2 (.mov (.c (.int .i64 2)))])
 .ret)
 .skip))))))))
 (.seq
 (rR [2] [
 oQ 2 (.mov (.c (.int .i64 3)))])
 .ret)))
theorem jL (hn:vals.length≤11) (h:SP Tryz.prog true vals bs jv [.slot 2] Q):AM.Sem Tryz.prog 118 vals bs Q:=
 oZ (keeps:=[(0,[1]),(1,[4]),(2,[4,5]),(4,[4,7]),(6,[9]),(7,[2]),(5,[2]),(3,[2]),(8,[2])]) (solo:=[]) Tryz.func118 rfl hn h
def jt:RC:=
 (.seq
 (rR [0,1] [
 oQ 4 (.mov (.c (.int .i64 0)))])
 (.seq
 (.block 0
 (.seq
 (rR [0,1,5] [
 qM 6 0,qM 7 1,oQ 8 (.bin .lss (.t 6) (.t 7)),qM 5 8])
 (.cond (.t 5)
 (.seq
 (rR [4] [
 oQ 4 (.mov (.c (.int .i64 (-1))))])
 .ret)
 (.seq
 (rR [9] [
 qM 10 0,qM 11 1,oQ 12 (.bin .gtr (.t 10) (.t 11)),qM 9 12])
 (.cond (.t 9)
 (.seq
 (rR [4] [
 oQ 4 (.mov (.c (.int .i64 1)))])
 .ret)
 .skip)))))
 (.seq
 (rR [4] [
 oQ 4 (.mov (.c (.int .i64 0)))])
 .ret)))
theorem jJ (hn:vals.length≤13) (h:SP Tryz.prog true vals bs jt [.slot 4] Q):AM.Sem Tryz.prog 119 vals bs Q:=
 oZ (keeps:=[(0,[0,1]),(1,[0,1,5]),(3,[9]),(4,[4]),(2,[4]),(5,[4])]) (solo:=[]) Tryz.func119 rfl hn h
def kj:RC:=
 (.seq
 (rR [0,1] [
 oQ 4 (.mov (.c (.int .i64 0)))])
 (.seq
 (.block 0
 (.seq
 (rR [0,1,5] [
 qM 6 0,qM 7 1,oQ 8 (.bin .lss (.t 6) (.t 7)),qM 5 8])
 (.cond (.t 5)
 (.seq
 (rR [4] [
 oQ 4 (.mov (.c (.int .i64 (-1))))])
 .ret)
 (.seq
 (rR [9] [
 qM 10 0,qM 11 1,oQ 12 (.bin .gtr (.t 10) (.t 11)),qM 9 12])
 (.cond (.t 9)
 (.seq
 (rR [4] [
 oQ 4 (.mov (.c (.int .i64 1)))])
 .ret)
 .skip)))))
 (.seq
 (rR [4] [
 oQ 4 (.mov (.c (.int .i64 0)))])
 .ret)))
theorem kG (hn:vals.length≤13) (h:SP Tryz.prog true vals bs kj [.slot 4] Q):AM.Sem Tryz.prog 117 vals bs Q:=
 oZ (keeps:=[(0,[0,1]),(1,[0,1,5]),(3,[9]),(4,[4]),(2,[4]),(5,[4])]) (solo:=[]) Tryz.func117 rfl hn h
def ju:RC:=
 (.seq
 (rR [0,1] [
 oQ 4 (.mov (.c (.int .i64 0)))])
 (.seq
 (.seq
 (rR [0,1,5] [
 oQ 5 (.mov (.c (.int .i64 0)))])
 (.block 0
 (.loop
 (.seq
 (.seq
 (rR [0,1,5,16] [
 qM 7 5,qM 8 0,oQ 9 (.len false (.t 8)),oQ 10 (.bin .lss (.t 7) (.t 9)),qM 11 10,oG 12 11 true (.mov (.t 5)),oG 13 11 true (.mov (.t 1)),oG 14 11 true (.len false (.t 13)),oG 15 11 true (.bin .lss (.t 12) (.t 14)),oQ 16 (.pick (.t 11) (.t 15) (.c (.bool false)))])
 (.cond (.t 16)
 .skip
 (.exit 0)))
 (.seq
 (.block 1
 (.seq
 (.reg true [0,1,5,6] [
 qM 19 0,qM 20 5,qI 21 4 19 20,qA 22 4 21,qM 23 1,qM 24 5,qI 25 4 23 24,qA 26 4 25,oQ 27 (cF 85 [(.t 22),(.t 26)]),oQ 6 (.take 27)])
 (.seq
 (rR [0,1,5,6,29] [
 qM 28 6,oQ 29 (.bin .neq (.t 28) (.c (.int .i64 0)))])
 (.cond (.t 29)
 (.seq
 (rR [4] [
 qM 30 6,qM 4 30])
 .ret)
 .skip))))
 (rR [0,1,5] [
 qM 17 5,oQ 18 (.bin .add (.t 17) (.c (.int .i64 1))),qM 5 18]))))))
 (.seq
 (rR [4] [
 qM 31 0,oQ 32 (.len false (.t 31)),qM 33 1,oQ 34 (.len false (.t 33)),oQ 35 (cF 117 [(.t 32),(.t 34)]),qM 4 35])
 .ret)))
theorem jK (hn:vals.length≤36) (h:SP Tryz.prog true vals bs ju [.slot 4] Q):AM.Sem Tryz.prog 120 vals bs Q:=
 oZ (keeps:=[(0,[0,1]),(1,[0,1,5]),(2,[0,1,5,16]),(4,[0,1,5,6]),(5,[0,1,5,6,29]),(6,[4]),(3,[0,1,5]),(7,[4])]) (solo:=[]) Tryz.func120 rfl hn h
def lC:RC:=
 (.seq
 (rR [0,1] [
 oQ 4 (.mov (.c (.bool false)))])
 (.seq
 (.seq
 (rR [0,1,5] [
 oQ 5 (.mov (.c (.int .i64 0)))])
 (.block 0
 (.loop
 (.seq
 (.seq
 (rR [0,1,5,9] [
 qM 6 5,qM 7 0,oQ 8 (.len false (.t 7)),oQ 9 (.bin .lss (.t 6) (.t 8))])
 (.cond (.t 9)
 .skip
 (.exit 0)))
 (.seq
 (.block 1
 (.seq
 (rR [0,1,5,17] [
 qM 12 0,qM 13 5,qI 14 1 12 13,qL 15 14,qM 16 1,oQ 17 (.bin .eql (.t 15) (.t 16))])
 (.cond (.t 17)
 (.seq
 (rR [4] [
 oQ 4 (.mov (.c (.bool true)))])
 .ret)
 .skip)))
 (rR [0,1,5] [
 qM 10 5,oQ 11 (.bin .add (.t 10) (.c (.int .i64 1))),qM 5 11]))))))
 (.seq
 (rR [4] [
 oQ 4 (.mov (.c (.bool false)))])
 .ret)))
theorem lL (hn:vals.length≤18) (h:SP Tryz.prog true vals bs lC [.slot 4] Q):AM.Sem Tryz.prog 168 vals bs Q:=
 oZ (keeps:=[(0,[0,1]),(1,[0,1,5]),(2,[0,1,5,9]),(4,[0,1,5,17]),(5,[4]),(3,[0,1,5]),(6,[4])]) (solo:=[]) Tryz.func168 rfl hn h
def jC:RC:=
 (.seq
 (rR [1] [
 oQ 1 (.box (.t 0)),oQ 2 (.mov (.c (.bool false)))])
 (.seq
 (rR [2] [
 qA 3 4 1,oQ 4 (cF 38 [(.t 3),(.c (.int .i64 1000)),(.c (.int .i64 100))]),oQ 5 (.bin .geq (.t 4) (.c (.int .i64 0))),qM 2 5])
 .ret))
theorem jR (hn:vals.length≤6) (h:SP Tryz.prog true vals bs jC [.slot 2] Q):AM.Sem Tryz.prog 12 vals bs Q:=
 oZ (keeps:=[(0,[1]),(1,[2])]) (solo:=[]) Tryz.func12 rfl hn h
def kB:RC:=
 (.seq
 (rR [1,2,3] [
 oQ 3 (.box (.t 0)),oQ 6 (.mov (.c (.int .i64 0)))])
 (.seq
 (rR [1,2,3] [
 qM 8 1,oQ 9 (.bin .sub (.t 8) (.c (.int .i64 1))),qM 1 9])
 (.seq
 (.seq
 (rR [1,2,3,15] [
 qM 10 2,oQ 11 (.bin .lss (.t 10) (.c (.int .i64 1))),qM 12 11,oG 13 12 false (.mov (.t 1)),oG 14 12 false (.bin .lss (.t 13) (.c (.int .i64 0))),oQ 15 (.pick (.t 12) (.c (.bool true)) (.t 14))])
 (.cond (.t 15)
 (.seq
 (rR [6] [
 oQ 6 (.mov (.c (.int .i64 (-1))))])
 .ret)
 .skip))
 (.seq
 (.seq
 (rR [1,2,3,18,19] [
 qF 16 3 3,qL 17 16,oQ 18 (.len false (.t 17)),oQ 19 (.mov (.c (.int .i64 0)))])
 (.block 0
 (.loop
 (.seq
 (rR [1,2,3,18,19,20] [
 oQ 20 (.bin .lss (.t 19) (.t 18))])
 (.seq
 (.cond (.t 20)
 .skip
 (.exit 0))
 (.seq
 (.block 1
 (.seq
 (rR [1,2,3,7,18,19] [
 qM 21 19,qM 7 21])
 (.seq
 (rR [1,2,3,18,19] [
 qF 22 3 3,qL 23 22,qM 24 7,qI 25 4 23 24,qA 26 4 25,qM 27 1,qM 28 2,oQ 29 (.bin .sub (.t 28) (.c (.int .i64 1))),oQ 30 (cF 38 [(.t 26),(.t 27),(.t 29)]),qM 1 30])
 (.seq
 (rR [1,2,3,18,19,32] [
 qM 31 1,oQ 32 (.bin .lss (.t 31) (.c (.int .i64 0)))])
 (.cond (.t 32)
 (.seq
 (rR [6] [
 oQ 6 (.mov (.c (.int .i64 (-1))))])
 .ret)
 .skip)))))
 (rR [1,2,3,18,19] [
 oQ 33 (.bin .add (.t 19) (.c (.int .i64 1))),qM 19 33])))))))
 (.seq
 (rR [6] [
 qM 34 1,qM 6 34])
 .ret)))))
theorem kM (hn:vals.length≤35) (h:SP Tryz.prog true vals bs kB [.slot 6] Q):AM.Sem Tryz.prog 38 vals bs Q:=
 oZ (keeps:=[(0,[1,2,3]),(1,[1,2,3]),(2,[1,2,3,15]),(3,[6]),(4,[1,2,3,18,19]),(5,[1,2,3,18,19,20]),(6,[1,2,3,7,18,19]),(7,[1,2,3,18,19]),(8,[1,2,3,18,19,32]),(9,[6]),(10,[1,2,3,18,19]),(11,[6])]) (solo:=[]) Tryz.func38 rfl hn h
def kA:RC:=
 (.seq
 (rR [0,1] [
 oQ 4 (.mov (.c (.bool false)))])
 (.seq
 (.seq
 (rR [0,1,10] [
 qM 6 0,oQ 7 (.len false (.t 6)),qM 8 1,oQ 9 (.len false (.t 8)),oQ 10 (.bin .neq (.t 7) (.t 9))])
 (.cond (.t 10)
 (.seq
 (rR [4] [
 oQ 4 (.mov (.c (.bool false)))])
 .ret)
 .skip))
 (.seq
 (.seq
 (rR [0,1,12,13] [
 qM 11 0,oQ 12 (.len false (.t 11)),oQ 13 (.mov (.c (.int .i64 0)))])
 (.block 0
 (.loop
 (.seq
 (rR [0,1,12,13,14] [
 oQ 14 (.bin .lss (.t 13) (.t 12))])
 (.seq
 (.cond (.t 14)
 .skip
 (.exit 0))
 (.seq
 (.block 1
 (.seq
 (rR [0,1,5,12,13] [
 qM 15 13,qM 5 15])
 (.seq
 (.reg true [0,1,12,13,24] [
 qM 16 0,qM 17 5,qI 18 1 16 17,qL 19 18,qM 20 1,qM 21 5,qI 22 1 20 21,qL 23 22,oQ 24 (.bin .neq (.t 19) (.t 23))])
 (.cond (.t 24)
 (.seq
 (rR [4] [
 oQ 4 (.mov (.c (.bool false)))])
 .ret)
 .skip))))
 (rR [0,1,12,13] [
 oQ 25 (.bin .add (.t 13) (.c (.int .i64 1))),qM 13 25])))))))
 (.seq
 (rR [4] [
 oQ 4 (.mov (.c (.bool true)))])
 .ret))))
theorem kL (hn:vals.length≤26) (h:SP Tryz.prog true vals bs kA [.slot 4] Q):AM.Sem Tryz.prog 17 vals bs Q:=
 oZ (keeps:=[(0,[0,1]),(1,[0,1,10]),(2,[4]),(3,[0,1,12,13]),(4,[0,1,12,13,14]),(5,[0,1,5,12,13]),(6,[0,1,12,13,24]),(7,[4]),(8,[0,1,12,13]),(9,[4])]) (solo:=[]) Tryz.func17 rfl hn h
theorem sO (hn:vals.length≤17) (h:SP Tryz.prog false vals bs tC [] Q):AM.Sem Tryz.prog 131 vals bs Q:=
 oZ (keeps:=[(0,[0,1,5,6]),(1,[0,1,5,6,7]),(2,[0,1,3,5,6]),(3,[0,1,5,6,15]),(4,[0,1,5,6])]) (solo:=[]) Tryz.func131 rfl hn h
theorem wz (hn:vals.length≤26) (h:SP Tryz.prog false vals bs yz [.slot 4] Q):AM.Sem Tryz.prog 132 vals bs Q:=
 oZ (keeps:=[(0,[1,2]),(1,[1,2,9]),(2,[4]),(3,[1,15,16,17]),(4,[1,15,16,17,18]),(5,[1,6,15,16,17]),(6,[1,15,16,17,24]),(7,[4]),(8,[1,15,16,17]),(9,[4])]) (solo:=[]) Tryz.func132 rfl hn h
theorem dz (hn:vals.length≤37) (h:SP Tryz.prog false vals bs kg [.slot 4] Q):AM.Sem Tryz.prog 134 vals bs Q:=
 oZ (keeps:=[(0,[0,3]),(1,[0,3,16]),(2,[0,3]),(3,[0,5]),(4,[0,5,6]),(5,[0,5,6,27]),(7,[0,5,6]),(6,[0,5,6]),(8,[4]),(1000000,[21])]) (solo:=[]) Tryz.func134 rfl hn h
theorem jT (hn:vals.length≤5) (h:SP Tryz.prog false vals bs ku [.slot 2] Q):AM.Sem Tryz.prog 100 vals bs Q:=
 oZ (keeps:=[(0,[1]),(1,[2])]) (solo:=[]) Tryz.func100 rfl hn h
end Go.CK
namespace Go.CK
open Go.AM Go.Proofs
set_option maxRecDepth 100000 in
theorem IN {x:Int}:Fun Tryz.prog 157 [.int .i64 x] (.bool false):=by
 refine Fun.of (qW (by simp) ?_) rfl rfl
 conv=>whnf
 conv=>whnf
 repeat' (refine af.nrm ?_<;>conv=>whnf)
 simp
set_option maxRecDepth 100000 in
theorem IM {x:ByteArray}:Fun Tryz.prog 158 [.str x] (.bool false):=by
 refine Fun.of (ov (by simp) ?_) rfl rfl
 conv=>whnf
 conv=>whnf
 repeat' (refine af.nrm ?_<;>conv=>whnf)
 simp
set_option maxRecDepth 100000 in
theorem D8 {x y:Int}:Fun Tryz.prog 121 [.int .i64 x,.int .i64 y] (.int .i64 (e8 x y)):=by
 refine Fun.of (o0 (by simp) ?_) rfl rfl
 conv=>whnf
 conv=>whnf
 repeat' ((first|(refine gF ?_;refine ab.fn (IN) ?_)|(refine gC ?_;first|refine cN ?_|refine aq.lt (fun hc=>?_) (fun hc=>?_))|refine af.nrm ?_)<;>conv=>whnf)
 ·rw [e8,if_pos (by omega)]
 ·rw [e8,if_neg (by omega),if_pos (by omega)]
 ·rw [e8,if_neg (by omega),if_neg (by omega)]
set_option maxRecDepth 100000 in
theorem D7 {x y:ByteArray}:Fun Tryz.prog 123 [.str x,.str y] (.int .i64 (qq x y)):=by
 refine Fun.of (my (by simp) ?_) rfl rfl
 conv=>whnf
 conv=>whnf
 repeat' ((first|(refine gF ?_;refine ab.fn (IM) ?_)|(refine gC ?_;first|refine cN ?_|refine .not ?_|refine cNa ?_|with_reducible refine aq.or ?_|refine aq.dec (fun hc=>?_) (fun hc=>?_)|refine aq.any (fun hc=>?_) (fun hc=>?_))|refine af.nrm ?_)<;>conv=>whnf)
 ·simp [qq,fz, *]
 ·simp [qq,fz, *]
 ·simp [qq,fz, *]
set_option maxRecDepth 100000 in
theorem oV {x y:Int}:Fun Tryz.prog 117 [.int .i64 x,.int .i64 y] (.int .i64 (e8 x y)):=by
 refine Fun.of (kG (by simp) ?_) rfl rfl
 conv=>whnf
 conv=>whnf
 repeat' ((first|(refine gC ?_;refine aq.lt (fun hc=>?_) (fun hc=>?_))|refine af.nrm ?_)<;>conv=>whnf)
 ·rw [e8,if_pos (by omega)]
 ·rw [e8,if_neg (by omega),if_pos (by omega)]
 ·rw [e8,if_neg (by omega),if_neg (by omega)]
set_option maxRecDepth 100000 in
theorem zX {x y:ByteArray}:Fun Tryz.prog 119 [.str x,.str y] (.int .i64 (qq x y)):=by
 refine Fun.of (jJ (by simp) ?_) rfl rfl
 conv=>whnf
 conv=>whnf
 repeat' ((first|(refine gC ?_;first|refine .not ?_|refine cNa ?_|with_reducible refine aq.or ?_|refine aq.dec (fun hc=>?_) (fun hc=>?_)|refine aq.any (fun hc=>?_) (fun hc=>?_))|refine af.nrm ?_)<;>conv=>whnf)
 ·simp [qq,fz, *]
 ·simp [qq,fz, *]
 ·simp [qq,fz, *]
def orL:List Int->Int
 |[]=>0
 |x::l=>orI x (orL l)
theorem Ad {l:List Int} {j:Nat} {x:Int} (h:l[j]?=some x):orL (l.drop j)=orI x (orL (l.drop (j+1))):=by
 obtain ⟨h1,rfl⟩:=List.getElem?_eq_some_iff.1 h;rw [List.drop_eq_getElem_cons h1,orL]
set_option maxRecDepth 100000 in
theorem J9 {l:List Int}:Fun Tryz.prog 124 [slA c7 l] (.int .i64 (orL l)):=by
 refine Fun.assume rfl fun hg0=>?_;have hg:=(bH (hg0 (slA c7 l) (by simp))).1
 refine Fun.of (wq (by simp) ?_) rfl rfl
 conv=>whnf
 conv=>whnf
 repeat' ((refine gL ?_;refine .map ?_)<;>conv=>whnf)
 refine aw.count (fb:=true) (l.length) (fun st_ j=>st_.zG [(8,.int .i64 j)]) (fun j=>orL (l.drop j)=orL l) ?_ ?_ (fun j hj hij=>?_) (fun hij=>?_)
 ·rfl
 ·exact au
 ·conv=>whnf
  repeat' ((first|(refine gC ?_;first|refine .not ?_|(refine gD ?_;refine cI ?_)|refine aq.dec (fun hc=>?_) (fun hc=>?_))|(refine gW ?_;refine wI ?_)|(refine gI ?_;(refine gM ?_;refine iH fun x hx=>?_))|refine af.nrm ?_)<;>conv=>whnf)
  ·rw [Ad (by assumption)] at hij
   refine ⟨?_,?_⟩
   ·rw [←hij];simp [orI, *]
   ·exact au
  ·rw [Ad (by assumption),GB (by assumption)] at hij
   rw [hij]
 ·conv=>whnf
  repeat' ((first|(refine gC ?_;(refine gD ?_;refine cJ ?_))|refine af.nrm ?_)<;>conv=>whnf)
  rw [List.drop_length] at hij;rw [←hij];rfl
theorem Ka {a b c:Int}:Fun Tryz.prog 124 [.sl .no [.int .i64 a,.int .i64 b,.int .i64 c]] (.int .i64 (orI a (orI b c))):=by
 have:=J9 (l:=[a,b,c]);have e:orL [a,b,c]=orI a (orI b c):=by simp only [orL,orI];repeat' split<;>first|rfl|omega
 rwa [e] at this
set_option maxRecDepth 100000 in
theorem Dw {k:Int}:Fun Tryz.prog 122 [.int .i64 k] (.int .i64 (iP k)):=by
 refine Fun.of (yI (by simp) ?_) rfl rfl
 conv=>whnf
 conv=>whnf
 repeat' ((first|(refine gC ?_;refine aq.dec (fun hc=>?_) (fun hc=>?_))|refine af.nrm ?_)<;>conv=>whnf)
 all_goals simp [iP, *]
set_option maxRecDepth 100000 in
theorem Bk {t:Tm}:Fun Tryz.prog 118 [t.avw] (.int .i64 (iP t.kind)):=by
 refine Fun.of (jL (by simp) ?_) rfl rfl
 conv=>whnf
 conv=>whnf
 repeat' ((first|(refine gC ?_;refine aq.dec (fun hc=>?_) (fun hc=>?_))|refine af.nrm ?_)<;>conv=>whnf)
 all_goals simp [iP, *]
set_option maxRecDepth 100000 in
theorem IX {l m:List Tm} (hl:l.length=m.length) (ih:∀t∈l,∀b:Tm,Fun Tryz.prog 86 [t.avw,b.avw] (.int .i64 (t.cmp b))):Fun Tryz.prog 103 [slA Tm.av l,slA Tm.av m] (.int .i64 (Tm.nD l m)):=by
 refine Fun.assume rfl fun hg0=>?_;have hg:=(bH (hg0 (slA Tm.av l) (by simp))).1
 refine Fun.of (yK (by simp) ?_) rfl rfl
 conv=>whnf
 conv=>whnf
 repeat' ((refine gL ?_;refine .map ?_)<;>conv=>whnf)
 refine aw.count (fb:=true) (l.length) (fun st_ j=>st_.zG [(9,.int .i64 j)]) (fun j=>Tm.nD (l.drop j) (m.drop j)=Tm.nD l m) ?_ ?_ (fun j hj hij=>?_) (fun hij=>?_)
 ·rfl
 ·exact au
 ·conv=>whnf
  repeat' ((first|(refine gG ?_;refine aM.fn (ih _ (List.mem_of_getElem? (by assumption)) _) ?_)|(refine gC ?_;first|refine .not ?_|(refine gD ?_;refine cI ?_)|refine aq.dec (fun hc=>?_) (fun hc=>?_))|(refine gW ?_;refine wI ?_)|(refine gI ?_;(refine gT ?_;refine iC fun x hx=>?_))|refine af.nrm ?_)<;>conv=>whnf)
  ·rw [oi (by assumption) (by assumption)] at hij
   refine ⟨?_,?_⟩
   ·rw [←hij];simp [orI, *]
   ·exact au
  ·rw [oi (by assumption) (by assumption),GB (by assumption)] at hij
   rw [hij]
 ·conv=>whnf
  repeat' ((first|(refine gC ?_;(refine gD ?_;refine cJ ?_))|refine af.nrm ?_)<;>conv=>whnf)
  rw [vc (Nat.le_refl _) (by omega) (.inl rfl),hl,xW] at hij
  rw [←hij]
set_option maxRecDepth 100000 in
theorem G7 {l m:List Tm} (ih:∀t∈l,∀b:Tm,Fun Tryz.prog 85 [t.avw,b.avw] (.int .i64 (t.cmp b))):Fun Tryz.prog 120 [slA Tm.av l,slA Tm.av m] (.int .i64 (Tm.nD l m)):=by
 refine Fun.assume rfl fun hg0=>?_;have hg:=(bH (hg0 (slA Tm.av l) (by simp))).1
 refine Fun.of (jK (by simp) ?_) rfl rfl
 conv=>whnf
 conv=>whnf
 skip;refine aw.by (fb:=true) (fun st_ j=>st_.zG [(5,.int .i64 (j:Nat))]) (fun j=>j≤l.length∧j≤m.length∧Tm.nD (l.drop j) (m.drop j)=Tm.nD l m) (fun j=>l.length-j) 0 ⟨by omega,by omega,rfl⟩ ?_ ?_
 ·exact au
 ·rintro j ⟨h1,h2,hij⟩
  conv=>whnf
  repeat' ((first|(refine gF ?_;refine ab.fn (oV) ?_)|(refine gG ?_;refine aM.fn (ih _ (List.mem_of_getElem? (by assumption)) _) ?_)|(refine gC ?_;first|refine cN ?_|refine .not ?_|(refine gD ?_;first|refine cI ?_|refine cJ ?_)|refine aq.lt (fun hc=>?_) (fun hc=>?_)|refine aq.dec (fun hc=>?_) (fun hc=>?_))|(refine gW ?_;refine wI ?_)|(refine gL ?_;refine .map ?_)|(refine gI ?_;(refine gT ?_;refine iC fun x hx=>?_))|refine af.nrm ?_)<;>conv=>whnf)
  ·rw [oi (by assumption) (by assumption)] at hij
   refine ⟨j+1,⟨⟨by omega,by omega,?_⟩,by omega⟩,?_⟩
   ·rw [←hij];simp [orI, *]
   ·exact au
  ·rw [oi (by assumption) (by assumption),GB (by assumption)] at hij
   rw [hij]
  ·rw [vc h1 h2 (by omega)] at hij
   rw [hij]
  ·rw [vc h1 h2 (by omega)] at hij
   rw [hij]
set_option maxRecDepth 100000 in
theorem Df (a:Tm):∀b:Tm,Fun Tryz.prog 86 [a.avw,b.avw] (.int .i64 (a.cmp b)):=by
 induction a using Tm.bD with
 |h k n s l ih=>
 intro b;generalize ha:Tm.mk k n s l=a;have ih:∀t∈a.args,∀b:Tm,Fun Tryz.prog 86 [t.avw,b.avw] (.int .i64 (t.cmp b)):=by subst ha;exact ih
 clear ha;rw [Tm.cmp_eq];refine Fun.of (sK (by simp) ?_) rfl rfl
 conv=>whnf
 conv=>whnf
 repeat' ((first|(refine gF ?_;first|refine ab.fn (Dw) ?_|refine ab.fn (D8) ?_|refine ab.fn (D7) ?_|refine ab.fn (IX (by have:=KB.1 (show e8 (a.args.length:Int) b.args.length=0 by assumption);omega) ih) ?_)|(refine gG ?_;first|refine aM.fn (Dw) ?_|refine aM.fn (D8) ?_|refine aM.fn (D7) ?_|refine aM.fn (Ka) ?_)|(refine gC ?_;first|refine .not ?_|(refine gD ?_;refine cI ?_)|refine aq.dec (fun hc=>?_) (fun hc=>?_))|(refine gL ?_;refine .map ?_)|refine af.nrm ?_)<;>conv=>whnf)
 all_goals (clear ih;simp_all [orI])
set_option maxRecDepth 100000 in
theorem vZ (a:Tm):∀b:Tm,Fun Tryz.prog 85 [a.avw,b.avw] (.int .i64 (a.cmp b)):=by
 induction a using Tm.bD with
 |h k n s l ih=>
 intro b;generalize ha:Tm.mk k n s l=a;have ih:∀t∈a.args,∀b:Tm,Fun Tryz.prog 85 [t.avw,b.avw] (.int .i64 (t.cmp b)):=by subst ha;exact ih
 clear ha;rw [Tm.cmp_eq];refine Fun.of (hZ (by simp) ?_) rfl rfl
 conv=>whnf
 conv=>whnf
 repeat' ((first|(refine gF ?_;first|refine ab.fn (Bk) ?_|refine ab.fn (oV) ?_|refine ab.fn (zX) ?_|refine ab.fn (G7 ih) ?_)|(refine gG ?_;first|refine aM.fn (Bk) ?_|refine aM.fn (oV) ?_)|(refine gC ?_;first|refine .not ?_|(refine gD ?_;first|refine cI ?_|refine cJ ?_)|refine aq.dec (fun hc=>?_) (fun hc=>?_))|(refine gL ?_;refine .map ?_)|refine af.nrm ?_)<;>conv=>whnf)
 all_goals (clear ih;simp_all [orI])
end Go.CK
namespace Go.CK
open Go.AM Go.Proofs
def isI (n:Int) (x:Int):Bool:=decide (n=x)
theorem Jf (l:List Int) (n:Int):l.any (isI n)=decide (n∈l):=by
 rw [Bool.eq_iff_iff];simp [isI]
set_option maxRecDepth 100000 in
theorem AT {l:List Int} {n:Int}:Fun Tryz.prog 168 [slA c7 l,.int .i64 n] (.bool (decide (n∈l))):=by
 rw [←Jf];refine Fun.assume rfl fun hg0=>?_;have hg:=(bH (hg0 (slA c7 l) (by simp))).1
 refine Fun.of (lL (by simp) ?_) rfl rfl
 conv=>whnf
 conv=>whnf
 skip;refine aw.count (fb:=true) (l.length) (fun st_ j=>st_.zG [(5,.int .i64 j)]) (fun j=>∀i x,i<j->l[i]?=some x->isI n x=false) ?_ ?_ (fun j hj hij=>?_) (fun hij=>?_)
 ·exact IJ
 ·exact au
 ·conv=>whnf
  repeat' ((first|(refine gC ?_;first|(refine gD ?_;refine cI ?_)|refine aq.dec (fun hc=>?_) (fun hc=>?_))|(refine gW ?_;refine wI ?_)|(refine gL ?_;refine .map ?_)|(refine gI ?_;(refine gM ?_;refine iH fun x hx=>?_))|refine af.nrm ?_)<;>conv=>whnf)
  ·rw [KM (by assumption) (by simp [isI, *])]
  ·refine ⟨IK hij (by assumption) (by simp [isI];omega),?_⟩
   exact au
 ·conv=>whnf
  repeat' ((first|(refine gC ?_;(refine gD ?_;refine cJ ?_))|(refine gL ?_;refine .map ?_)|refine af.nrm ?_)<;>conv=>whnf)
  rw [KL hij]
end Go.CK
namespace Go.CK
open Go.AM Go.Proofs
mutual
def lft:Tm->Int->Int->Int
 |.mk _ _ _ args,n,d=>if d<1∨n-1<0 then-1 else ni args (n-1) (d-1)
def ni:List Tm->Int->Int->Int
 |[],n,_=>n
 |t::r,n,d=>if lft t n d<0 then-1 else ni r (lft t n d) d
end
theorem CG (t:Tm) (n d:Int):lft t n d=if d<1∨n-1<0 then-1 else ni t.args (n-1) (d-1):=by
 obtain ⟨k,m,s,l⟩:=t;rw [lft];rfl
theorem Km (t:Tm):∀n d,-1≤n->-1≤lft t n d∧lft t n d≤n:=by
 induction t using Tm.bD with
 |h k m s l ih=>
  have hl:∀(r:List Tm),(∀t∈r,t∈l)->∀n d,-1≤n->-1≤ni r n d∧ni r n d≤n:=fun r=>by
   induction r with
   |nil=>intro _ n d hn;simp only [ni];omega
   |cons t r ihr=>
    intro hm n d hn;have h1:=ih t (hm t (by simp)) n d hn
    have h2:=ihr (fun x hx=>hm x (by simp [hx])) (lft t n d) d h1.1
    simp only [ni];split<;>omega
  intro n d hn;rw [lft];have:=hl l (fun t h=>h) (n-1) (d-1);split
  ·omega
  ·have:=this (by omega);omega
theorem ES {l:List Tm} {j:Nat} {x:Tm} (h:l[j]?=some x) (n d:Int):ni (l.drop j) n d=if lft x n d<0 then-1 else ni (l.drop (j+1)) (lft x n d) d:=by
 have hj:j<l.length:=(List.getElem?_eq_some_iff.1 h).1;rw [List.drop_eq_getElem_cons hj,(List.getElem?_eq_some_iff.1 h).2,ni]
set_option maxRecDepth 100000 in
theorem IY (a:Tm):∀n d:Int,-1≤n->n≤1000->0≤d->d≤100->Fun Tryz.prog 38 [a.avw,.int .i64 n,.int .i64 d] (.int .i64 (lft a n d)):=by
 induction a using Tm.bD with
 |h k n s l ih=>
 intro m d h1 h2 h3 h4;generalize ha:Tm.mk k n s l=a;have ih:∀t∈a.args,∀n d:Int,-1≤n->n≤1000->0≤d->d≤100->Fun Tryz.prog 38 [t.avw,.int .i64 n,.int .i64 d] (.int .i64 (lft t n d)):=by subst ha;exact ih
 clear ha;refine Fun.assume rfl fun hg0=>?_;refine Fun.of (kM (by simp) ?_) rfl rfl
 conv=>whnf
 have hg:=(oe (hg0 a.avw (by simp))).2.1
 conv=>whnf
 repeat' ((first|(refine gC ?_;first|refine cY ?_|(refine gD ?_;first|refine cI ?_|refine cJ ?_)|refine aq.lt (fun hc=>?_) (fun hc=>?_))|(refine gW ?_;refine wI ?_)|(refine gL ?_;refine .map ?_)|refine af.nrm ?_)<;>conv=>whnf)
 ·rw [CG,if_pos (.inl hc)]
 ·rw [CG,if_pos (.inr hc)]
 ·have e0:lft a m d=ni a.args (m-1) (d-1):=by rw [CG,if_neg (by omega)]
  refine aw.by (fb:=true) (fun s (q:Nat×Int)=>s.zG [(1,.int .i64 q.2),(19,.int .i64 q.1)]) (fun q=>q.1≤a.args.length∧(0≤q.2∧q.2≤1000)∧ni (a.args.drop q.1) q.2 (d-1)=lft a m d) (fun q=>a.args.length-q.1) (0,m-1) ⟨Nat.zero_le _,by simp only;omega,by rw [e0];rfl⟩ ?_ ?_
  ·exact au
  ·rintro ⟨j,r⟩ ⟨hj,hr,he⟩;dsimp only at hj hr he⊢
   by_cases hlt:j<a.args.length
   ·obtain ⟨x,hx⟩:∃x,a.args[j]?=some x:=⟨_,List.getElem?_eq_getElem hlt⟩;rw [ES hx] at he;have hb:=Km x r (d-1) (by omega)
    conv=>whnf
    repeat' ((first|(refine gF ?_;refine ab.fn (ih _ (List.mem_of_getElem? (by assumption)) _ _ (by omega) (by omega) (by omega) (by omega)) ?_)|(refine gC ?_;first|(refine gD ?_;refine cI ?_)|refine aq.lt (fun hc=>?_) (fun hc=>?_))|(refine gW ?_;refine wI ?_)|(refine gI ?_;(refine gT ?_;refine iA ?_))|refine af.nrm ?_)<;>conv=>whnf)
    ·rw [if_pos (by assumption)] at he
     rw [he]
    ·rw [if_neg (by omega)] at he
     refine ⟨(j+1,lft x r (d-1)),⟨⟨hlt,by simp only;omega,he⟩,by simp only;omega⟩,?_⟩
     exact au
   ·have hje:j=a.args.length:=by omega
    subst hje;rw [List.drop_length,ni] at he
    conv=>whnf
    repeat' ((first|(refine gC ?_;(refine gD ?_;refine cJ ?_))|refine af.nrm ?_)<;>conv=>whnf)
    rw [he]
def Tm.small (t:Tm):Bool:=decide (0≤lft t 1000 100)
set_option maxRecDepth 100000 in
theorem vJ (a:Tm):Fun Tryz.prog 12 [a.avw] (.bool a.small):=by
 refine Fun.of (jR (by simp) ?_) rfl rfl
 conv=>whnf
 conv=>whnf
 repeat' ((first|(refine gF ?_;refine ab.fn (IY _ _ _ (by omega) (by omega) (by omega) (by omega)) ?_)|refine af.nrm ?_)<;>conv=>whnf)
 all_goals rfl
end Go.CK
