/-
  Texts of this aZ joined (wip/gen/bundle.py),those declarations only that are needed:Lay RcTrm. By an AI agent.
-/
import Derived.Ground.NamesProg
import Derived.Ground.GgzProg
import Derived.Ground.GgwProg
import Derived.Shelf.Sort.Plain
import Derived.Shelf.Slices.In.SortNone
import Derived.Shelf.SlIterI.Sorted
import Derived.Shelf.SlIterI.Collect
import Derived.Shelf.SlIterI.Keys
import Derived.Shelf.GgClosure.StringsIndexFuncTop
import Derived.Shelf.Strings.Search3
import Derived.Test.YtpihbplamelcnaaGreatProg
import Derived.Test.YtpihbplamelcnaaGreatBat
set_option linter.unusedSimpArgs false
set_option linter.unusedVariables false
namespace Go.Proofs
open Go.Shelf
def Tryz.laysSort_ren:Go.Shelf.Ren:=⟨λ|189=>171|125=>183|257=>182|128=>198|129=>199|294=>189|295=>190|296=>191|297=>192|298=>193|299=>194|216=>195|300=>196|301=>197|328=>202|329=>203|330=>204|331=>205|332=>206|215=>131|343=>207|n=>n,λ|28=>32|3=>3|46=>181|0=>0|51=>191|53=>193|4=>4|183=>185|182=>184|131=>148|5=>5|9=>9|218=>196|222=>200|228=>202|229=>203|n=>n,λ|n=>n⟩
theorem Tryz.EC:Go.Proofs.Lays.n189 Tryz.prog Tryz.laysSort_ren:={
 mixed:=by kernel_rfl,
 f125:=Tryz.func183.trans (congrArg some (by kernel_rfl)),
 f128:=Tryz.func198.trans (congrArg some (by kernel_rfl)),
 f129:=Tryz.func199.trans (congrArg some (by kernel_rfl)),
 f189:=Tryz.func171.trans (congrArg some (by kernel_rfl)),
 f215:=Tryz.func131.trans (congrArg some (by kernel_rfl)),
 f216:=Tryz.func195.trans (congrArg some (by kernel_rfl)),
 f257:=Tryz.func182.trans (congrArg some (by kernel_rfl)),
 f294:=Tryz.func189.trans (congrArg some (by kernel_rfl)),
 f295:=Tryz.func190.trans (congrArg some (by kernel_rfl)),
 f296:=Tryz.func191.trans (congrArg some (by kernel_rfl)),
 f297:=Tryz.func192.trans (congrArg some (by kernel_rfl)),
 f298:=Tryz.func193.trans (congrArg some (by kernel_rfl)),
 f299:=Tryz.func194.trans (congrArg some (by kernel_rfl)),
 f300:=Tryz.func196.trans (congrArg some (by kernel_rfl)),
 f301:=Tryz.func197.trans (congrArg some (by kernel_rfl)),
 f328:=Tryz.func202.trans (congrArg some (by kernel_rfl)),
 f329:=Tryz.func203.trans (congrArg some (by kernel_rfl)),
 f330:=Tryz.func204.trans (congrArg some (by kernel_rfl)),
 f331:=Tryz.func205.trans (congrArg some (by kernel_rfl)),
 f332:=Tryz.func206.trans (congrArg some (by kernel_rfl)),
 f343:=Tryz.func207.trans (congrArg some (by kernel_rfl)),
 t0:=Tryz.underlying0,
 a0:=Tryz.isAgg0,
 z0:=Tryz.sizeOf0,
 v0:=Tryz.zeroValue0,
 t3:=Tryz.underlying3,
 a3:=Tryz.isAgg3,
 z3:=Tryz.sizeOf3,
 v3:=Tryz.zeroValue3,
 t4:=Tryz.underlying4,
 a4:=Tryz.isAgg4,
 z4:=Tryz.sizeOf4,
 v4:=Tryz.zeroValue4,
 t5:=Tryz.underlying5,
 a5:=Tryz.isAgg5,
 z5:=Tryz.sizeOf5,
 v5:=Tryz.zeroValue5,
 t9:=Tryz.underlying9,
 a9:=Tryz.isAgg9,
 z9:=Tryz.sizeOf9,
 v9:=Tryz.zeroValue9,
 t28:=Tryz.underlying32,
 a28:=Tryz.isAgg32,
 z28:=Tryz.sizeOf32,
 v28:=Tryz.zeroValue32,
 t46:=Tryz.underlying181,
 a46:=Tryz.isAgg181,
 z46:=Tryz.sizeOf181,
 v46:=Tryz.zeroValue181,
 t51:=Tryz.underlying191,
 a51:=Tryz.isAgg191,
 z51:=Tryz.sizeOf191,
 v51:=Tryz.zeroValue191,
 t53:=Tryz.underlying193,
 a53:=Tryz.isAgg193,
 z53:=Tryz.sizeOf193,
 v53:=Tryz.zeroValue193,
 t131:=Tryz.underlying148,
 a131:=Tryz.isAgg148,
 z131:=Tryz.sizeOf148,
 v131:=Tryz.zeroValue148,
 t182:=Tryz.underlying184,
 a182:=Tryz.isAgg184,
 z182:=Tryz.sizeOf184,
 v182:=Tryz.zeroValue184,
 t183:=Tryz.underlying185,
 a183:=Tryz.isAgg185,
 z183:=Tryz.sizeOf185,
 v183:=Tryz.zeroValue185,
 t218:=Tryz.underlying196,
 a218:=Tryz.isAgg196,
 z218:=Tryz.sizeOf196,
 v218:=Tryz.zeroValue196,
 t222:=Tryz.underlying200,
 a222:=Tryz.isAgg200,
 z222:=Tryz.sizeOf200,
 v222:=Tryz.zeroValue200,
 t228:=Tryz.underlying202,
 a228:=Tryz.isAgg202,
 z228:=Tryz.sizeOf202,
 v228:=Tryz.zeroValue202,
 t229:=Tryz.underlying203,
 a229:=Tryz.isAgg203,
 z229:=Tryz.sizeOf203,
 v229:=Tryz.zeroValue203}
def Tryz.laysContains_ren:Go.Shelf.Ren:=⟨λ|144=>147|143=>168|219=>180|217=>185|225=>186|224=>187|267=>188|266=>200|314=>201|n=>n,λ|9=>9|4=>4|3=>3|5=>5|46=>181|146=>194|51=>191|n=>n,λ|1=>0|n=>n⟩
theorem Tryz.CH:Go.Proofs.Lays.n144 Tryz.prog Tryz.laysContains_ren:={
 mixed:=by kernel_rfl,
 f143:=Tryz.func168.trans (congrArg some (by kernel_rfl)),
 f144:=Tryz.func147.trans (congrArg some (by kernel_rfl)),
 f217:=Tryz.func185.trans (congrArg some (by kernel_rfl)),
 f219:=Tryz.func180.trans (congrArg some (by kernel_rfl)),
 f224:=Tryz.func187.trans (congrArg some (by kernel_rfl)),
 f225:=Tryz.func186.trans (congrArg some (by kernel_rfl)),
 f266:=Tryz.func200.trans (congrArg some (by kernel_rfl)),
 f267:=Tryz.func188.trans (congrArg some (by kernel_rfl)),
 f314:=Tryz.func201.trans (congrArg some (by kernel_rfl)),
 t3:=Tryz.underlying3,
 a3:=Tryz.isAgg3,
 z3:=Tryz.sizeOf3,
 v3:=Tryz.zeroValue3,
 t4:=Tryz.underlying4,
 a4:=Tryz.isAgg4,
 z4:=Tryz.sizeOf4,
 v4:=Tryz.zeroValue4,
 t5:=Tryz.underlying5,
 a5:=Tryz.isAgg5,
 z5:=Tryz.sizeOf5,
 v5:=Tryz.zeroValue5,
 t9:=Tryz.underlying9,
 a9:=Tryz.isAgg9,
 z9:=Tryz.sizeOf9,
 v9:=Tryz.zeroValue9,
 t46:=Tryz.underlying181,
 a46:=Tryz.isAgg181,
 z46:=Tryz.sizeOf181,
 v46:=Tryz.zeroValue181,
 t51:=Tryz.underlying191,
 a51:=Tryz.isAgg191,
 z51:=Tryz.sizeOf191,
 v51:=Tryz.zeroValue191,
 t146:=Tryz.underlying194,
 a146:=Tryz.isAgg194,
 z146:=Tryz.sizeOf194,
 v146:=Tryz.zeroValue194,
 g1:=by kernel_rfl}
def Tryz.laysIndexFunc_ren:Go.Shelf.Ren:=⟨λ|15=>145|20=>167|n=>n,λ|9=>9|23=>139|3=>3|4=>4|0=>0|21=>21|n=>n,λ|n=>n⟩
theorem Tryz.z8:Go.Proofs.LaysGw.n15 Tryz.prog Tryz.laysIndexFunc_ren:={
 mixed:=by kernel_rfl,
 f15:=Tryz.func145.trans (congrArg some (by kernel_rfl)),
 f20:=Tryz.func167.trans (congrArg some (by kernel_rfl)),
 t0:=Tryz.underlying0,
 a0:=Tryz.isAgg0,
 z0:=Tryz.sizeOf0,
 v0:=Tryz.zeroValue0,
 i0:=by kernel_rfl,
 t3:=Tryz.underlying3,
 a3:=Tryz.isAgg3,
 z3:=Tryz.sizeOf3,
 v3:=Tryz.zeroValue3,
 i3:=by kernel_rfl,
 t4:=Tryz.underlying4,
 a4:=Tryz.isAgg4,
 z4:=Tryz.sizeOf4,
 v4:=Tryz.zeroValue4,
 i4:=by kernel_rfl,
 t9:=Tryz.underlying9,
 a9:=Tryz.isAgg9,
 z9:=Tryz.sizeOf9,
 v9:=Tryz.zeroValue9,
 i9:=by kernel_rfl,
 t21:=Tryz.underlying21,
 a21:=Tryz.isAgg21,
 z21:=Tryz.sizeOf21,
 v21:=Tryz.zeroValue21,
 i21:=by kernel_rfl,
 t23:=Tryz.underlying139,
 a23:=Tryz.isAgg139,
 z23:=Tryz.sizeOf139,
 v23:=Tryz.zeroValue139,
 i23:=by kernel_rfl}
def Tryz.laysSorted_ren:Go.Shelf.Ren:=⟨λ|6=>155|8=>170|9=>171|11=>181|13=>183|12=>182|23=>198|24=>199|14=>189|15=>190|16=>191|17=>192|18=>193|19=>194|20=>195|21=>196|22=>197|25=>202|26=>203|27=>204|28=>205|29=>206|30=>131|31=>207|n=>n,λ|26=>3|28=>104|24=>32|0=>0|3=>3|37=>181|48=>191|50=>193|4=>4|40=>185|39=>184|45=>148|5=>5|9=>9|51=>196|55=>200|57=>202|58=>203|33=>119|n=>n,λ|n=>n⟩
theorem Tryz.GJ:Go.Proofs.SlLaysZI.n6 Tryz.prog Tryz.laysSorted_ren:={
 mixed:=by kernel_rfl,
 f6 := ⟨ "slices.Sorted[int]", by decide, Tryz.func155.trans (congrArg some (by kernel_rfl))⟩,
 f8 := ⟨ "slices.Collect[int]", by decide, Tryz.func170.trans (congrArg some (by kernel_rfl))⟩,
 f11 := ⟨ "slices.AppendSeq[[]int,int]", by decide, Tryz.func181.trans (congrArg some (by kernel_rfl))⟩,
 t0:=Tryz.underlying0,
 a0:=Tryz.isAgg0,
 z0:=Tryz.sizeOf0,
 v0:=Tryz.zeroValue0,
 t24:=Tryz.underlying32,
 a24:=Tryz.isAgg32,
 z24:=Tryz.sizeOf32,
 v24:=Tryz.zeroValue32,
 t26:=Tryz.underlying3,
 a26:=Tryz.isAgg3,
 z26:=Tryz.sizeOf3,
 v26:=Tryz.zeroValue3,
 t28:=Tryz.underlying104,
 a28:=Tryz.isAgg104,
 z28:=Tryz.sizeOf104,
 v28:=Tryz.zeroValue104,
 i26:=by kernel_rfl}
def Tryz.laysKeys_ren:Go.Shelf.Ren:=⟨λ|7=>156|10=>172|n=>n,λ|23=>142|26=>3|3=>3|28=>104|0=>0|27=>103|33=>119|4=>4|n=>n,λ|n=>n⟩
theorem Tryz.Ld:Go.Proofs.SlLaysZI.n7 Tryz.prog Tryz.laysKeys_ren:={
 mixed:=by kernel_rfl,
 f7 := ⟨ "maps.Keys[map[int]int,int,int]", by decide, Tryz.func156.trans (congrArg some (by kernel_rfl))⟩,
 f10 := ⟨ "maps.Keys[map[int]int,int,int]$1", by decide, Tryz.func172.trans (congrArg some (by kernel_rfl))⟩,
 t0:=Tryz.underlying0,
 a0:=Tryz.isAgg0,
 z0:=Tryz.sizeOf0,
 v0:=Tryz.zeroValue0,
 t4:=Tryz.underlying4,
 a4:=Tryz.isAgg4,
 z4:=Tryz.sizeOf4,
 v4:=Tryz.zeroValue4,
 t23:=Tryz.underlying142,
 a23:=Tryz.isAgg142,
 z23:=Tryz.sizeOf142,
 v23:=Tryz.zeroValue142,
 t26:=Tryz.underlying3,
 a26:=Tryz.isAgg3,
 z26:=Tryz.sizeOf3,
 v26:=Tryz.zeroValue3,
 t27:=Tryz.underlying103,
 a27:=Tryz.isAgg103,
 z27:=Tryz.sizeOf103,
 v27:=Tryz.zeroValue103,
 t28:=Tryz.underlying104,
 a28:=Tryz.isAgg104,
 z28:=Tryz.sizeOf104,
 v28:=Tryz.zeroValue104,
 t33:=Tryz.underlying119,
 a33:=Tryz.isAgg119,
 z33:=Tryz.sizeOf119,
 v33:=Tryz.zeroValue119}
end Go.Proofs
namespace Go.CK
open Go.AM Go.Proofs
instance {n:Nat}:OfNat Opd n:=⟨.t n⟩
abbrev rR(k:List Nat)(o:List ROp):RC:=.reg false k o
abbrev cF(n:Nat)(a:List Opd):RX:=.call (.c (.fn (.func n) [] [])) a
abbrev oQ(d:Nat)(x:RX):ROp:=⟨some d,none,x⟩
abbrev oG(d g:Nat)(b:Bool)(x:RX):ROp:=⟨some d,some (g,b),x⟩
abbrev oN(x:RX):ROp:=⟨none,none,x⟩
abbrev qM(d a:Nat):ROp:=oQ d (.mov (.t a))
abbrev qK(d a:Nat):ROp:=oQ d (.j8 (.t a))
abbrev qF(d k a:Nat):ROp:=oQ d (.aF k (.t a))
abbrev qL(d a:Nat):ROp:=oQ d (.load false 1 (.t a))
abbrev qA(d z a:Nat):ROp:=oQ d (.load true z (.t a))
abbrev qI(d z a b:Nat):ROp:=oQ d (.idx z (.t a) (.t b))
abbrev SP(P:Program)(b:Bool)(vals:List AV)(bs:List Box)(c:RC)(rs:List cL)(Q:AV->List Box->Prop):Prop:=(⟨params 0 vals,bs,bs.length⟩:St).fo b λs=>c.gp P b s (O8 rs Q)
theorem oZ{P:Program}{f:FuncId}{fn:Func}{c:Code}{rc:RC}{keeps:List (Nat×List Nat)}{solo:List (Nat×Nat)}{rs:List cL}{fb:Bool}{vals:List AV}{bs:List Box}{Q:AV->List Box->Prop}(hf:P.funcs[f]? =some fn)(hb:fn.body=some c)(hn:vals.length<=fn.ntmps)(h:SP P fb vals bs rc rs Q)(hm:P.follows .mixedOrders=true:=by kernel_rfl)(hc:eL P fn.ntmps keeps solo true c=some rc:=by kernel_rfl)(hr:me P fn.results.toList=some rs:=by kernel_rfl):AM.Sem P f vals bs Q:=Sem.nrm (Sem.of hf hb hm hc hr hn (N3 h))
variable{vals:List AV}{bs:List Box}{Q:AV->List Box->Prop}
def yp:RC:=
 (.seq (rR [0] [oQ 2 (.mov (.c (.int .i64 0)))]) (.seq (rR [0,3] [oQ 3 (.mov (.c (.int .i64 0)))]) (.seq (.seq (rR [3,6,7,8] [qM 6 0,oQ 7 (.len false 6),oQ 8 (.mov (.c (.int .i64 0)))]) (.block 0 (.loop (.seq (rR [3,6,7,8,9] [oQ 9 (.bin .lss 8 7)]) (.seq (.cond 9 .skip (.exit 0)) (.seq (.block 1 (.seq (rR [3,5,6,7,8] [qI 10 1 6 8,qL 11 10,qM 5 11]) (.seq (rR [3,5,6,7,8,14] [qM 12 5,qM 13 3,oQ 14 (.bin .neq 12 13)]) (.cond 14 (.seq (rR [2] [qM 15 5,qM 2 15]) .ret) .skip)))) (rR [3,6,7,8] [oQ 16 (.bin .add 8 (.c (.int .i64 1))),qM 8 16]))))))) (.seq (rR [2] [qM 17 3,qM 2 17]) .ret))))
theorem y4(hn:vals.length<=18)(h:SP Tryz.prog true vals bs yp [.slot 2] Q):AM.Sem Tryz.prog 112 vals bs Q:=
 oZ (keeps:=[(0,[0]),(1,[0,3]),(2,[3,6,7,8]),(3,[3,6,7,8,9]),(4,[3,5,6,7,8]),(5,[3,5,6,7,8,14]),(6,[2]),(7,[3,6,7,8]),(8,[2])]) (solo:=[]) Tryz.func112 rfl hn h
def nN:RC:=
 (.seq (rR [0,1] [oQ 4 (.mov (.c (.int .i64 0)))]) (.seq (rR [0,1,5] [qM 7 0,oQ 8 (cF 132 [7]),qM 5 8]) (.seq (rR [0,1,5,6] [qM 9 1,oQ 10 (cF 132 [9]),qM 6 10]) (.seq (.seq (rR [0,1,6,11] [qM 11 5]) (.cond 11 (.seq (.seq (rR [12] [qM 12 6]) (.cond 12 (.seq (rR [4] [oQ 4 (.mov (.c (.int .i64 0)))]) .ret) .skip)) (.seq (rR [4] [oQ 4 (.mov (.c (.int .i64 (-1))))]) .ret)) .skip)) (.seq (.seq (rR [0,1,13] [qM 13 6]) (.cond 13 (.seq (rR [4] [oQ 4 (.mov (.c (.int .i64 1)))]) .ret) .skip)) (.seq (.seq (rR [0,1,16] [qM 14 0,qM 15 1,oQ 16 (.bin .lss 14 15)]) (.cond 16 (.seq (rR [4] [oQ 4 (.mov (.c (.int .i64 (-1))))]) .ret) .skip)) (.seq (.seq (rR [19] [qM 17 0,qM 18 1,oQ 19 (.bin .gtr 17 18)]) (.cond 19 (.seq (rR [4] [oQ 4 (.mov (.c (.int .i64 1)))]) .ret) .skip)) (.seq (rR [4] [oQ 4 (.mov (.c (.int .i64 0)))]) .ret))))))))
theorem nR(hn:vals.length<=20)(h:SP Tryz.prog true vals bs nN [.slot 4] Q):AM.Sem Tryz.prog 111 vals bs Q:=
 oZ (keeps:=[(0,[0,1]),(1,[0,1,5]),(2,[0,1,5,6]),(3,[0,1,6,11]),(4,[12]),(5,[4]),(6,[4]),(7,[0,1,13]),(8,[4]),(9,[0,1,16]),(10,[4]),(11,[19]),(12,[4]),(13,[4])]) (solo:=[]) Tryz.func111 rfl hn h
def qn:RC:=
 (.seq (rR [0,1] [oQ 4 (.mov (.c (.int .i64 0)))]) (.seq (rR [0,1,5] [qM 7 0,oQ 8 (cF 131 [7]),qM 5 8]) (.seq (rR [0,1,5,6] [qM 9 1,oQ 10 (cF 131 [9]),qM 6 10]) (.seq (.seq (rR [0,1,6,11] [qM 11 5]) (.cond 11 (.seq (.seq (rR [12] [qM 12 6]) (.cond 12 (.seq (rR [4] [oQ 4 (.mov (.c (.int .i64 0)))]) .ret) .skip)) (.seq (rR [4] [oQ 4 (.mov (.c (.int .i64 (-1))))]) .ret)) .skip)) (.seq (.seq (rR [0,1,13] [qM 13 6]) (.cond 13 (.seq (rR [4] [oQ 4 (.mov (.c (.int .i64 1)))]) .ret) .skip)) (.seq (.seq (rR [0,1,16] [qM 14 0,qM 15 1,oQ 16 (.bin .lss 14 15)]) (.cond 16 (.seq (rR [4] [oQ 4 (.mov (.c (.int .i64 (-1))))]) .ret) .skip)) (.seq (.seq (rR [19] [qM 17 0,qM 18 1,oQ 19 (.bin .gtr 17 18)]) (.cond 19 (.seq (rR [4] [oQ 4 (.mov (.c (.int .i64 1)))]) .ret) .skip)) (.seq (rR [4] [oQ 4 (.mov (.c (.int .i64 0)))]) .ret))))))))
theorem qu(hn:vals.length<=20)(h:SP Tryz.prog true vals bs qn [.slot 4] Q):AM.Sem Tryz.prog 109 vals bs Q:=
 oZ (keeps:=[(0,[0,1]),(1,[0,1,5]),(2,[0,1,5,6]),(3,[0,1,6,11]),(4,[12]),(5,[4]),(6,[4]),(7,[0,1,13]),(8,[4]),(9,[0,1,16]),(10,[4]),(11,[19]),(12,[4]),(13,[4])]) (solo:=[]) Tryz.func109 rfl hn h
def td:RC:=
 (.seq (rR [0] [oQ 2 (.mov (.c (.bool false)))]) (.seq (rR [2] [qM 3 0,qM 4 0,oQ 5 (.bin .neq 3 4),qM 2 5]) .ret))
theorem tr(hn:vals.length<=6)(h:SP Tryz.prog true vals bs td [.slot 2] Q):AM.Sem Tryz.prog 131 vals bs Q:=
 oZ (keeps:=[(0,[0]),(1,[2])]) (solo:=[]) Tryz.func131 rfl hn h
def pO:RC:=
 (.seq (rR [0] [oQ 2 (.mov (.c (.bool false)))]) (.seq (rR [2] [qM 3 0,qM 4 0,oQ 5 (.bin .neq 3 4),qM 2 5]) .ret))
theorem pR(hn:vals.length<=6)(h:SP Tryz.prog true vals bs pO [.slot 2] Q):AM.Sem Tryz.prog 132 vals bs Q:=
 oZ (keeps:=[(0,[0]),(1,[2])]) (solo:=[]) Tryz.func132 rfl hn h
def uF:RC:=
 (.seq (rR [2,3] [oQ 2 (.box 0),oQ 3 (.box 1),oQ 4 (.mov (.c (.int .i64 0)))]) (.seq (.seq (.reg true [2,3,5] [qF 8 0 2,qL 9 8,oQ 10 (cF 110 [9]),qF 11 0 3,qL 12 11,oQ 13 (cF 110 [12]),oQ 14 (cF 109 [10,13]),oQ 5 (.take 14)]) (.seq (rR [2,3,5,16] [qM 15 5,oQ 16 (.bin .neq 15 (.c (.int .i64 0)))]) (.cond 16 (.seq (rR [4] [qM 17 5,qM 4 17]) .ret) .skip))) (.seq (.seq (rR [2,3,20] [qF 18 0 2,qL 19 18,oQ 20 (cF 110 [19])]) (.block 0 (.seq (.seq (rR [2,3,20,21] [oQ 22 (.bin .eql 20 (.c (.int .i64 0))),qM 21 22]) (.cond 21 .skip (rR [2,3,20,21] [oQ 23 (.bin .eql 20 (.c (.int .i64 1))),qM 21 23]))) (.cond 21 (.seq (rR [4] [qF 24 1 2,qL 25 24,qF 26 1 3,qL 27 26,oQ 28 (cF 109 [25,27]),qM 4 28]) .ret) (.seq (rR [2,3,29] [oQ 30 (.bin .eql 20 (.c (.int .i64 2))),qM 29 30]) (.cond 29 (.seq (.seq (rR [2,3,6] [qF 31 3 2,qL 32 31,oQ 33 (.len false 32),qF 34 3 3,qL 35 34,oQ 36 (.len false 35),oQ 37 (cF 109 [33,36]),qM 6 37])
 (.seq (rR [2,3,6,39] [qM 38 6,oQ 39 (.bin .neq 38 (.c (.int .i64 0)))]) (.cond 39 (.seq (rR [4] [qM 40 6,qM 4 40]) .ret) .skip))) (.seq (.seq (rR [2,3,7] [qF 41 2 2,qL 42 41,qF 43 2 3,qL 44 43,oQ 45 (cF 111 [42,44]),qM 7 45]) (.seq (rR [2,3,7,47] [qM 46 7,oQ 47 (.bin .neq 46 (.c (.int .i64 0)))]) (.cond 47 (.seq (rR [4] [qM 48 7,qM 4 48]) .ret) .skip))) (.seq (rR [4] [qF 49 3 2,qL 50 49,qF 51 3 3,qL 52 51,oQ 53 (cF 62 [50,52]),qM 4 53]) .ret))) .skip)))))) (.seq (.reg true [4] [qF 54 0 2,qL 55 54,qF 56 0 3,qL 57 56,oQ 58 (cF 109 [55,57]),qF 59 1 2,qL 60 59,qF 61 1 3,qL 62 61,oQ 63 (cF 109 [60,62]),qF 64 2 2,qL 65 64,qF 66 2 3,qL 67 66,oQ 68 (cF 111 [65,67]),oQ 69 (.aM 1 [58,63,68]),oQ 70 (cF 112 [69]),oQ 4 (.take 70)]) .ret))))
theorem uJ(hn:vals.length<=71)(h:SP Tryz.prog true vals bs uF [.slot 4] Q):AM.Sem Tryz.prog 89 vals bs Q:=
 oZ (keeps:=[(0,[2,3]),(1,[2,3,5]),(2,[2,3,5,16]),(3,[4]),(4,[2,3,20]),(5,[2,3,20,21]),(6,[2,3,20,21]),(8,[2,3,29]),(9,[2,3,6]),(10,[2,3,6,39]),(11,[4]),(12,[2,3,7]),(13,[2,3,7,47]),(14,[4]),(15,[4]),(7,[4]),(16,[4])]) (solo:=[]) Tryz.func89 rfl hn h
def Cj:RC:=
 (.seq (rR [1] [oQ 1 (.box 0),oQ 2 (.mov (.c (.sl .full [])))]) (.seq (.seq (rR [1,5] [qF 3 0 1,qL 4 3,oQ 5 (.bin .eql 4 (.c (.int .i64 2)))]) (.cond 5 (.seq (rR [2] [qF 6 3 1,qL 7 6,qM 2 7]) .ret) .skip)) (.seq (rR [2] [oQ 2 (.mov (.c (.sl .full [])))]) .ret)))
theorem Cs(hn:vals.length<=8)(h:SP Tryz.prog true vals bs Cj [.slot 2] Q):AM.Sem Tryz.prog 130 vals bs Q:=
 oZ (keeps:=[(0,[1]),(1,[1,5]),(2,[2]),(3,[2])]) (solo:=[]) Tryz.func130 rfl hn h
def Ch:RC:=
 (.seq (rR [0,1] [oQ 4 (.mov (.c (.int .i64 0)))]) (.seq (.seq (rR [0,1,8,9] [qM 7 0,oQ 8 (.len false 7),oQ 9 (.mov (.c (.int .i64 0)))]) (.block 0 (.loop (.seq (rR [0,1,8,9,10] [oQ 10 (.bin .lss 9 8)]) (.seq (.cond 10 .skip (.exit 0)) (.seq (.block 1 (.seq (rR [0,1,5,8,9] [qM 11 9,qM 5 11]) (.seq (.reg true [0,1,6,8,9] [qM 12 0,qM 13 5,qI 14 4 12 13,qA 15 4 14,qM 16 1,qM 17 5,qI 18 4 16 17,qA 19 4 18,oQ 20 (cF 89 [15,19]),oQ 6 (.take 20)]) (.seq (rR [0,1,6,8,9,22] [qM 21 6,oQ 22 (.bin .neq 21 (.c (.int .i64 0)))]) (.cond 22 (.seq (rR [4] [qM 23 6,qM 4 23]) .ret) .skip))))) (rR [0,1,8,9] [oQ 24 (.bin .add 9 (.c (.int .i64 1))),qM 9 24]))))))) (.seq (rR [4] [oQ 4 (.mov (.c (.int .i64 0)))]) .ret)))
theorem Cq(hn:vals.length<=25)(h:SP Tryz.prog true vals bs Ch [.slot 4] Q):AM.Sem Tryz.prog 62 vals bs Q:=
 oZ (keeps:=[(0,[0,1]),(1,[0,1,8,9]),(2,[0,1,8,9,10]),(3,[0,1,5,8,9]),(4,[0,1,6,8,9]),(5,[0,1,6,8,9,22]),(6,[4]),(7,[0,1,8,9]),(8,[4])]) (solo:=[]) Tryz.func62 rfl hn h
def Cf:RC:=
 (.seq (rR [0] [oQ 2 (.mov (.c (.int .i64 0)))]) (.seq (.seq (rR [3] [qM 3 0]) (.block 0 (.seq (rR [3,4] [oQ 5 (.bin .eql 3 (.c (.int .i64 1))),qM 4 5]) (.cond 4 (.seq (rR [2] [oQ 2 (.mov (.c (.int .i64 0)))]) .ret) (.seq (rR [3,6] [oQ 7 (.bin .eql 3 (.c (.int .i64 0))),qM 6 7]) (.cond 6 (.seq (rR [2] [oQ 2 (.mov (.c (.int .i64 1)))]) .ret) (.seq (rR [8] [oQ 9 (.bin .eql 3 (.c (.int .i64 2))),qM 8 9]) (.cond 8 (.seq (rR [2] [oQ 2 (.mov (.c (.int .i64 2)))]) .ret) .skip)))))))) (.seq (rR [2] [oQ 2 (.mov (.c (.int .i64 3)))]) .ret)))
theorem Co(hn:vals.length<=10)(h:SP Tryz.prog true vals bs Cf [.slot 2] Q):AM.Sem Tryz.prog 110 vals bs Q:=
 oZ (keeps:=[(0,[0]),(1,[3]),(2,[3,4]),(4,[3,6]),(6,[8]),(7,[2]),(5,[2]),(3,[2]),(8,[2])]) (solo:=[]) Tryz.func110 rfl hn h
def s9:RC:=
 (.seq (rR [1] [oQ 1 (.box 0),oQ 2 (.mov (.c (.sl .full [])))]) (.seq (rR [2] [qF 3 1 1,qL 4 3,oQ 5 (cF 88 [4]),oQ 6 (cF 97 [5]),qM 2 6]) .ret))
theorem tp(hn:vals.length<=7)(h:SP Tryz.prog true vals bs s9 [.slot 2] Q):AM.Sem Tryz.prog 71 vals bs Q:=
 oZ (keeps:=[(0,[1]),(1,[2])]) (solo:=[]) Tryz.func71 rfl hn h
def Cg:RC:=
 (.seq (rR [0,2] [oQ 2 (.mov (.c (.sl .full [])))]) (.seq (rR [0,2,3] [oQ 3 (.box (.c (.sl .full [])))]) (.seq (rR [0,2,3,4] [oQ 6 (.eff .mkM []),oQ 4 (.box (.c .nmp)),oN (.store 1 4 6)]) (.seq (.seq (rR [2,3,4,7] [qM 7 0]) (.block 0 (.range 7 [8] (rR [3,4,5] [qM 5 8]) (.block 1 (.seq (rR [3,4,5,12] [qL 9 4,qM 10 5,oQ 11 (.eff (.getM false (.bool false)) [9,10]),oQ 12 (.un .not 11)]) (.cond 12 (.seq (rR [3,5] [qL 13 4,qM 14 5,oN (.eff .x8 [13,14,(.c (.bool true))])]) (rR [] [qL 15 3,qM 16 5,oQ 17 (.aM 1 [16]),oQ 18 (.append 1 15 17),oN (.store 1 3 18)])) .skip)))))) (.seq (rR [2] [qL 19 3,qM 2 19]) .ret)))))
theorem Cp(hn:vals.length<=20)(h:SP Tryz.prog true vals bs Cg [.slot 2] Q):AM.Sem Tryz.prog 97 vals bs Q:=
 oZ (keeps:=[(0,[0,2]),(1,[0,2,3]),(2,[0,2,3,4]),(3,[2,3,4,7]),(4,[3,4,5]),(5,[3,4,5,12]),(6,[3,5]),(7,[]),(8,[2])]) (solo:=[]) Tryz.func97 rfl hn h
def Ci:RC:=
 (.seq (rR [1] [oQ 1 (.box 0),oQ 2 (.mov (.c .nfn))]) (.seq (rR [2] [oQ 3 (.z6 (.func 107) [] [1]),qM 2 3]) .ret))
theorem Cr(hn:vals.length<=4)(h:SP Tryz.prog true vals bs Ci [.slot 2] Q):AM.Sem Tryz.prog 88 vals bs Q:=
 oZ (keeps:=[(0,[1]),(1,[2])]) (solo:=[]) Tryz.func88 rfl hn h
def Ck:RC:=
 (.seq (rR [2,3] [oQ 2 (.box 0),oQ 3 (.box 1),oQ 4 (.mov (.c (.bool false)))]) (.seq (rR [4] [qA 5 4 2,qA 6 4 3,oQ 7 (cF 89 [5,6]),oQ 8 (.bin .eql 7 (.c (.int .i64 0))),qM 4 8]) .ret))
theorem Cu(hn:vals.length<=9)(h:SP Tryz.prog true vals bs Ck [.slot 4] Q):AM.Sem Tryz.prog 58 vals bs Q:=
 oZ (keeps:=[(0,[2,3]),(1,[4])]) (solo:=[]) Tryz.func58 rfl hn h
def DY:RC:=
 (.seq (rR [0,2] [oQ 2 (.box (.c (.agg [(.int .i64 0),(.int .i64 0),(.str ⟨⟨[]⟩⟩),(.sl .full [])])))]) (.seq (rR [2] [qM 3 0,oQ 4 (.build [(.int .i64 0),(.int .i64 0),(.str ⟨⟨[]⟩⟩),(.sl .full [])] [(0,1,(.c (.int .i64 1))),(1,1,3)]),oN (.store 4 2 4)]) .ret))
theorem Ed(hn:vals.length<=5)(h:SP Tryz.prog true vals bs DY [.cell 2 true 4] Q):AM.Sem Tryz.prog 173 vals bs Q:=
 oZ (keeps:=[(0,[0,2]),(1,[2])]) (solo:=[]) Tryz.func173 rfl hn h
def vQ:RC:=
 (.seq (rR [0,1,5,6] [qL 4 1,oQ 5 (.len false 4),oQ 6 (.mov (.c (.int .i64 0)))]) (.block 0 (.loop (.seq (rR [0,1,5,6,7] [oQ 7 (.bin .lss 6 5)]) (.seq (.cond 7 .skip (.exit 0)) (.seq (.block 1 (.seq (rR [0,1,3,5,6] [qM 8 6,qM 3 8]) (.seq (rR [0,1,5,6,15] [qL 9 1,qM 10 3,qI 11 4 9 10,qA 12 4 11,qM 13 0,oQ 14 (cF 108 [12,13]),oQ 15 (.un .not 14)]) (.cond 15 .ret .skip)))) (rR [0,1,5,6] [oQ 16 (.bin .add 6 (.c (.int .i64 1))),qM 6 16])))))))
def Ce:RC:=
 (.seq (rR [1,2] [oQ 2 (.box 0),oQ 4 (.mov (.c (.bool false)))]) (.seq (.seq (rR [1,2,9] [qF 7 0 2,qL 8 7,oQ 9 (.bin .eql 8 (.c (.int .i64 1)))]) (.cond 9 (.seq (rR [4] [qM 10 1,qF 11 1 2,qL 12 11,oQ 13 (.fp 10 [12]),qM 4 13]) .ret) .skip)) (.seq (.seq (rR [1,15,16,17] [qA 14 4 2,oQ 15 (cF 130 [14]),oQ 16 (.len false 15),oQ 17 (.mov (.c (.int .i64 0)))]) (.block 0 (.loop (.seq (rR [1,15,16,17,18] [oQ 18 (.bin .lss 17 16)]) (.seq (.cond 18 .skip (.exit 0)) (.seq (.block 1 (.seq (rR [1,6,15,16,17] [qI 19 4 15 17,qA 20 4 19,oQ 6 (.box (.c (.agg [(.int .i64 0),(.int .i64 0),(.str ⟨⟨[]⟩⟩),(.sl .full [])]))),oN (.store 4 6 20)]) (.seq (rR [1,15,16,17,24] [qA 21 4 6,qM 22 1,oQ 23 (cF 108 [21,22]),oQ 24 (.un .not 23)]) (.cond 24 (.seq (rR [4] [oQ 4 (.mov (.c (.bool false)))]) .ret) .skip)))) (rR [1,15,16,17] [oQ 25 (.bin .add 17 (.c (.int .i64 1))),qM 17 25])))))))
 (.seq (rR [4] [oQ 4 (.mov (.c (.bool true)))]) .ret))))
def lF:RC:=
 (.seq (rR [0,3] [oQ 3 (.box 1),oQ 4 (.mov (.c (.sl .full [])))]) (.seq (.seq (rR [0,3,16] [qF 7 0 3,qL 8 7,oQ 9 (.bin .eql 8 (.c (.int .i64 1))),qM 10 9,oG 11 10 true (.mov 0),oG 12 10 true (.aF 1 3),oG 13 10 true (.load false 1 12),oG 14 10 true (cF 123 [11,13]),oG 15 10 true (.un .not 14),oQ 16 (.pick 10 15 (.c (.bool false)))]) (.cond 16 (rR [0,3] [qM 17 0,qF 18 1 3,qL 19 18,oQ 20 (.aM 1 [19]),oQ 21 (.eff (.qS 1) [17,20]),qM 0 21]) .skip)) (.seq (rR [0,5] [qA 22 4 3,oQ 23 (cF 100 [22]),qM 5 23]) (.seq (.seq (rR [0,5,6] [oQ 6 (.mov (.c (.int .i64 0)))]) (.block 0 (.loop (.seq (.seq (rR [0,5,6,27] [qM 24 6,qM 25 5,oQ 26 (.len false 25),oQ 27 (.bin .lss 24 26)]) (.cond 27 .skip (.exit 0))) (.seq (.block 1 (rR [0,5,6] [qM 30 0,qM 31 5,qM 32 6,qI 33 4 31 32,qA 34 4 33,oQ 35 (cF 98 [30,34]),qM 0 35])) (rR [0,5,6] [qM 28 6,oQ 29 (.bin .add 28 (.c (.int .i64 1))),qM 6 29]))))))
 (.seq (rR [4] [qM 36 0,qM 4 36]) .ret)))))
def lJ:RC:=
 (.seq (rR [1] [oQ 1 (.box 0),oQ 2 (.mov (.c (.sl .full [])))]) (.seq (rR [2] [qA 3 4 1,oQ 4 (cF 98 [(.c (.sl .full [])),3]),qM 2 4]) .ret))
def iO:RC:=
 (.seq (rR [0,1] [oQ 4 (.mov (.c (.bool false)))]) (.seq (.seq (rR [0,1,10] [qM 6 0,oQ 7 (.len false 6),qM 8 1,oQ 9 (.len false 8),oQ 10 (.bin .neq 7 9)]) (.cond 10 (.seq (rR [4] [oQ 4 (.mov (.c (.bool false)))]) .ret) .skip)) (.seq (.seq (rR [0,1,5] [oQ 5 (.mov (.c (.int .i64 0)))]) (.block 0 (.loop (.seq (.seq (rR [0,1,5,20] [qM 11 5,qM 12 0,oQ 13 (.len false 12),oQ 14 (.bin .lss 11 13),qM 15 14,oG 16 15 true (.mov 5),oG 17 15 true (.mov 1),oG 18 15 true (.len false 17),oG 19 15 true (.bin .lss 16 18),oQ 20 (.pick 15 19 (.c (.bool false)))]) (.cond 20 .skip (.exit 0))) (.seq (.block 1 (.seq (.reg true [0,1,5,31] [qM 23 0,qM 24 5,qI 25 1 23 24,qL 26 25,qM 27 1,qM 28 5,qI 29 1 27 28,qL 30 29,oQ 31 (.bin .neq 26 30)]) (.cond 31 (.seq (rR [4] [oQ 4 (.mov (.c (.bool false)))]) .ret) .skip))) (rR [0,1,5] [qM 21 5,oQ 22 (.bin .add 21 (.c (.int .i64 1))),qM 5 22]))))))
 (.seq (rR [4] [oQ 4 (.mov (.c (.bool true)))]) .ret))))
theorem iX(hn:vals.length<=32)(h:SP Tryz.prog true vals bs iO [.slot 4] Q):AM.Sem Tryz.prog 15 vals bs Q:=
 oZ (keeps:=[(0,[0,1]),(1,[0,1,10]),(2,[4]),(3,[0,1,5]),(4,[0,1,5,20]),(6,[0,1,5,31]),(7,[4]),(5,[0,1,5]),(8,[4])]) (solo:=[]) Tryz.func15 rfl hn h
def jy:RC:=
 (.seq (rR [2,3] [oQ 2 (.box 0),oQ 3 (.box 1),oQ 4 (.mov (.c (.int .i64 0)))]) (.seq (.reg true [2,3,5] [qA 6 4 2,oQ 7 (cF 120 [6]),qA 8 4 3,oQ 9 (cF 120 [8]),oQ 10 (cF 119 [7,9]),oQ 5 (.take 10)]) (.seq (.seq (rR [2,3,5,12] [qM 11 5,oQ 12 (.bin .neq 11 (.c (.int .i64 0)))]) (.cond 12 (.seq (rR [4] [qM 13 5,qM 4 13]) .ret) .skip)) (.seq (.seq (rR [2,3,15] [qA 14 4 2,oQ 15 (cF 120 [14])]) (.block 0 (.seq (.seq (rR [2,3,15,16] [oQ 17 (.bin .eql 15 (.c (.int .i64 0))),qM 16 17]) (.cond 16 .skip (rR [2,3,15,16] [oQ 18 (.bin .eql 15 (.c (.int .i64 1))),qM 16 18]))) (.cond 16 (.seq (rR [4] [qF 19 1 2,qL 20 19,qF 21 1 3,qL 22 21,oQ 23 (cF 119 [20,22]),qM 4 23]) .ret) (.seq (rR [2,3,24] [oQ 25 (.bin .eql 15 (.c (.int .i64 2))),qM 24 25]) (.cond 24 (.seq (rR [2,3,5] [qF 26 3 2,qL 27 26,oQ 28 (.len false 27),qF 29 3 3,qL 30 29,oQ 31 (.len false 30),oQ 32 (cF 119 [28,31]),qM 5 32])
 (.seq (.seq (rR [2,3,5,34] [qM 33 5,oQ 34 (.bin .eql 33 (.c (.int .i64 0)))]) (.cond 34 (rR [2,3,5] [qF 35 2 2,qL 36 35,qF 37 2 3,qL 38 37,oQ 39 (cF 121 [36,38]),qM 5 39]) .skip)) (.seq (.seq (rR [2,3,5,41] [qM 40 5,oQ 41 (.bin .eql 40 (.c (.int .i64 0)))]) (.cond 41 (rR [5] [qF 42 3 2,qL 43 42,qF 44 3 3,qL 45 44,oQ 46 (cF 96 [43,45]),qM 5 46]) .skip)) (.seq (rR [4] [qM 47 5,qM 4 47]) .ret)))) .skip)))))) (.seq (rR [2,3,5] [qF 48 0 2,qL 49 48,qF 50 0 3,qL 51 50,oQ 52 (cF 119 [49,51]),qM 5 52]) (.seq (.seq (rR [2,3,5,54] [qM 53 5,oQ 54 (.bin .eql 53 (.c (.int .i64 0)))]) (.cond 54 (rR [2,3,5] [qF 55 1 2,qL 56 55,qF 57 1 3,qL 58 57,oQ 59 (cF 119 [56,58]),qM 5 59]) .skip)) (.seq (.seq (rR [2,3,5,61] [qM 60 5,oQ 61 (.bin .eql 60 (.c (.int .i64 0)))]) (.cond 61 (rR [5] [qF 62 2 2,qL 63 62,qF 64 2 3,qL 65 64,oQ 66 (cF 121 [63,65]),qM 5 66])
 .skip)) (.seq (rR [4] [qM 67 5,qM 4 67]) .ret))))))))
theorem jC(hn:vals.length<=68)(h:SP Tryz.prog true vals bs jy [.slot 4] Q):AM.Sem Tryz.prog 94 vals bs Q:=
 oZ (keeps:=[(0,[2,3]),(1,[2,3,5]),(2,[2,3,5,12]),(3,[4]),(4,[2,3,15]),(5,[2,3,15,16]),(6,[2,3,15,16]),(8,[2,3,24]),(9,[2,3,5]),(10,[2,3,5,34]),(11,[2,3,5]),(12,[2,3,5,41]),(13,[5]),(14,[4]),(7,[4]),(15,[2,3,5]),(16,[2,3,5,54]),(17,[2,3,5]),(18,[2,3,5,61]),(19,[5]),(20,[4])]) (solo:=[]) Tryz.func94 rfl hn h
def lI:RC:=
 (.seq (rR [1] [oQ 1 (.box 0),oQ 2 (.mov (.c (.sl .full [])))]) (.seq (.seq (rR [1,5] [qF 3 0 1,qL 4 3,oQ 5 (.bin .eql 4 (.c (.int .i64 2)))]) (.cond 5 (.seq (rR [2] [qF 6 3 1,qL 7 6,qM 2 7]) .ret) .skip)) (.seq (rR [2] [oQ 2 (.mov (.c (.sl .full [])))]) .ret)))
theorem lT(hn:vals.length<=8)(h:SP Tryz.prog true vals bs lI [.slot 2] Q):AM.Sem Tryz.prog 100 vals bs Q:=
 oZ (keeps:=[(0,[1]),(1,[1,5]),(2,[2]),(3,[2])]) (solo:=[]) Tryz.func100 rfl hn h
def kM:RC:=
 (.seq (rR [1] [oQ 1 (.box 0),oQ 2 (.mov (.c (.int .i64 0)))]) (.seq (.seq (rR [4] [qF 3 0 1,qL 4 3]) (.block 0 (.seq (rR [4,5] [oQ 6 (.bin .eql 4 (.c (.int .i64 1))),qM 5 6]) (.cond 5 (.seq (rR [2] [oQ 2 (.mov (.c (.int .i64 0)))]) .ret) (.seq (rR [4,7] [oQ 8 (.bin .eql 4 (.c (.int .i64 0))),qM 7 8]) (.cond 7 (.seq (rR [2] [oQ 2 (.mov (.c (.int .i64 1)))]) .ret) (.seq (rR [9] [oQ 10 (.bin .eql 4 (.c (.int .i64 2))),qM 9 10]) (.cond 9 (.seq (rR [2] [oQ 2 (.mov (.c (.int .i64 2)))]) .ret) .skip)))))))) (.seq (rR [2] [oQ 2 (.mov (.c (.int .i64 3)))]) .ret)))
theorem k7(hn:vals.length<=11)(h:SP Tryz.prog true vals bs kM [.slot 2] Q):AM.Sem Tryz.prog 120 vals bs Q:=
 oZ (keeps:=[(0,[1]),(1,[4]),(2,[4,5]),(4,[4,7]),(6,[9]),(7,[2]),(5,[2]),(3,[2]),(8,[2])]) (solo:=[]) Tryz.func120 rfl hn h
def kK:RC:=
 (.seq (rR [0,1] [oQ 4 (.mov (.c (.int .i64 0)))]) (.seq (.block 0 (.seq (rR [0,1,5] [qM 6 0,qM 7 1,oQ 8 (.bin .lss 6 7),qM 5 8]) (.cond 5 (.seq (rR [4] [oQ 4 (.mov (.c (.int .i64 (-1))))]) .ret) (.seq (rR [9] [qM 10 0,qM 11 1,oQ 12 (.bin .gtr 10 11),qM 9 12]) (.cond 9 (.seq (rR [4] [oQ 4 (.mov (.c (.int .i64 1)))]) .ret) .skip))))) (.seq (rR [4] [oQ 4 (.mov (.c (.int .i64 0)))]) .ret)))
theorem kY(hn:vals.length<=13)(h:SP Tryz.prog true vals bs kK [.slot 4] Q):AM.Sem Tryz.prog 121 vals bs Q:=
 oZ (keeps:=[(0,[0,1]),(1,[0,1,5]),(3,[9]),(4,[4]),(2,[4]),(5,[4])]) (solo:=[]) Tryz.func121 rfl hn h
def lG:RC:=
 (.seq (rR [0,1] [oQ 4 (.mov (.c (.int .i64 0)))]) (.seq (.block 0 (.seq (rR [0,1,5] [qM 6 0,qM 7 1,oQ 8 (.bin .lss 6 7),qM 5 8]) (.cond 5 (.seq (rR [4] [oQ 4 (.mov (.c (.int .i64 (-1))))]) .ret) (.seq (rR [9] [qM 10 0,qM 11 1,oQ 12 (.bin .gtr 10 11),qM 9 12]) (.cond 9 (.seq (rR [4] [oQ 4 (.mov (.c (.int .i64 1)))]) .ret) .skip))))) (.seq (rR [4] [oQ 4 (.mov (.c (.int .i64 0)))]) .ret)))
theorem lS(hn:vals.length<=13)(h:SP Tryz.prog true vals bs lG [.slot 4] Q):AM.Sem Tryz.prog 119 vals bs Q:=
 oZ (keeps:=[(0,[0,1]),(1,[0,1,5]),(3,[9]),(4,[4]),(2,[4]),(5,[4])]) (solo:=[]) Tryz.func119 rfl hn h
def kL:RC:=
 (.seq (rR [0,1] [oQ 4 (.mov (.c (.int .i64 0)))]) (.seq (.seq (rR [0,1,5] [oQ 5 (.mov (.c (.int .i64 0)))]) (.block 0 (.loop (.seq (.seq (rR [0,1,5,16] [qM 7 5,qM 8 0,oQ 9 (.len false 8),oQ 10 (.bin .lss 7 9),qM 11 10,oG 12 11 true (.mov 5),oG 13 11 true (.mov 1),oG 14 11 true (.len false 13),oG 15 11 true (.bin .lss 12 14),oQ 16 (.pick 11 15 (.c (.bool false)))]) (.cond 16 .skip (.exit 0))) (.seq (.block 1 (.seq (.reg true [0,1,5,6] [qM 19 0,qM 20 5,qI 21 4 19 20,qA 22 4 21,qM 23 1,qM 24 5,qI 25 4 23 24,qA 26 4 25,oQ 27 (cF 94 [22,26]),oQ 6 (.take 27)]) (.seq (rR [0,1,5,6,29] [qM 28 6,oQ 29 (.bin .neq 28 (.c (.int .i64 0)))]) (.cond 29 (.seq (rR [4] [qM 30 6,qM 4 30]) .ret) .skip)))) (rR [0,1,5] [qM 17 5,oQ 18 (.bin .add 17 (.c (.int .i64 1))),qM 5 18])))))) (.seq (rR [4] [qM 31 0,oQ 32 (.len false 31),qM 33 1,oQ 34 (.len false 33),oQ 35 (cF 119 [32,34]),qM 4 35])
 .ret)))
theorem kZ(hn:vals.length<=36)(h:SP Tryz.prog true vals bs kL [.slot 4] Q):AM.Sem Tryz.prog 96 vals bs Q:=
 oZ (keeps:=[(0,[0,1]),(1,[0,1,5]),(2,[0,1,5,16]),(4,[0,1,5,6]),(5,[0,1,5,6,29]),(6,[4]),(3,[0,1,5]),(7,[4])]) (solo:=[]) Tryz.func96 rfl hn h
def kJ:RC:=
 (.seq (rR [0,1,2] [oQ 6 (.mov (.c (.int .i64 0)))]) (.seq (.seq (rR [0,1,2,15] [qM 8 2,oQ 9 (.bin .eql 8 (.c (.int .i64 0))),qM 10 9,oG 11 10 false (.mov 0),oG 12 10 false (.len false 11),oG 13 10 false (.mov 1),oG 14 10 false (.bin .gtr 12 13),oQ 15 (.pick 10 (.c (.bool true)) 14)]) (.cond 15 (.seq (rR [6] [oQ 6 (.mov (.c (.int .i64 (-1))))]) .ret) .skip)) (.seq (.seq (rR [0,1,2,7] [oQ 7 (.mov (.c (.int .i64 0)))]) (.block 0 (.loop (.seq (.seq (rR [0,1,2,7,23] [qM 16 7,qM 17 0,oQ 18 (.len false 17),oQ 19 (.bin .lss 16 18),qM 20 19,oG 21 20 true (.mov 1),oG 22 20 true (.bin .geq 21 (.c (.int .i64 0))),oQ 23 (.pick 20 22 (.c (.bool false)))]) (.cond 23 .skip (.exit 0))) (.seq (.block 1 (.reg true [0,1,2,7] [qM 26 0,qM 27 7,qI 28 4 26 27,qF 29 3 28,qL 30 29,qM 31 1,oQ 32 (.bin .sub 31 (.c (.int .i64 1))),qM 33 0,qM 34 7,qI 35 4 33 34,qF 36 2 35,qL 37 36,oQ 38 (.len true 37),oQ 39 (.bin .quo 38 (.c (.int .i64 8))),oQ 40 (.bin .sub 32 39),qM 41 2,oQ 42 (.bin .sub 41 (.c (.int .i64 1))),oQ 43 (cF 28 [30,40,42]),oQ 1 (.take 43)]))
 (rR [0,1,2,7] [qM 24 7,oQ 25 (.bin .add 24 (.c (.int .i64 1))),qM 7 25])))))) (.seq (rR [6] [qM 44 1,qM 6 44]) .ret))))
theorem kX(hn:vals.length<=45)(h:SP Tryz.prog true vals bs kJ [.slot 6] Q):AM.Sem Tryz.prog 28 vals bs Q:=
 oZ (keeps:=[(0,[0,1,2]),(1,[0,1,2,15]),(2,[6]),(3,[0,1,2,7]),(4,[0,1,2,7,23]),(6,[0,1,2,7]),(5,[0,1,2,7]),(7,[6])]) (solo:=[]) Tryz.func28 rfl hn h
def mH:RC:=
 (.seq (rR [0,1] [oQ 4 (.mov (.c (.bool false)))]) (.seq (.seq (rR [0,1,5] [oQ 5 (.mov (.c (.int .i64 0)))]) (.block 0 (.loop (.seq (.seq (rR [0,1,5,9] [qM 6 5,qM 7 0,oQ 8 (.len false 7),oQ 9 (.bin .lss 6 8)]) (.cond 9 .skip (.exit 0))) (.seq (.block 1 (.seq (rR [0,1,5,17] [qM 12 0,qM 13 5,qI 14 1 12 13,qL 15 14,qM 16 1,oQ 17 (.bin .eql 15 16)]) (.cond 17 (.seq (rR [4] [oQ 4 (.mov (.c (.bool true)))]) .ret) .skip))) (rR [0,1,5] [qM 10 5,oQ 11 (.bin .add 10 (.c (.int .i64 1))),qM 5 11])))))) (.seq (rR [4] [oQ 4 (.mov (.c (.bool false)))]) .ret)))
theorem mQ(hn:vals.length<=18)(h:SP Tryz.prog true vals bs mH [.slot 4] Q):AM.Sem Tryz.prog 123 vals bs Q:=
 oZ (keeps:=[(0,[0,1]),(1,[0,1,5]),(2,[0,1,5,9]),(4,[0,1,5,17]),(5,[4]),(3,[0,1,5]),(6,[4])]) (solo:=[]) Tryz.func123 rfl hn h
def iP:RC:=
 (.seq (rR [2,3] [oQ 2 (.box 0),oQ 3 (.box 1),oQ 4 (.mov (.c (.bool false)))]) (.seq (rR [4] [qF 5 0 2,qL 6 5,qF 7 0 3,qL 8 7,oQ 9 (.bin .eql 6 8),qM 10 9,oG 11 10 true (.aF 1 2),oG 12 10 true (.load false 1 11),oG 13 10 true (.aF 1 3),oG 14 10 true (.load false 1 13),oG 15 10 true (.bin .eql 12 14),oQ 16 (.pick 10 15 (.c (.bool false))),qM 17 16,oG 18 17 true (.aF 2 2),oG 19 17 true (.load false 1 18),oG 20 17 true (.len false 19),oG 21 17 true (.aF 2 3),oG 22 17 true (.load false 1 21),oG 23 17 true (.len false 22),oG 24 17 true (.bin .eql 20 23),oQ 25 (.pick 17 24 (.c (.bool false))),qM 26 25,oG 27 26 true (.aF 2 2),oG 28 26 true (.load false 1 27),oG 29 26 true (.aF 2 3),oG 30 26 true (.load false 1 29),oG 31 26 true (cF 69 [28,30]),oQ 32 (.pick 26 31 (.c (.bool false))),qM 4 32]) .ret))
theorem iY(hn:vals.length<=33)(h:SP Tryz.prog true vals bs iP [.slot 4] Q):AM.Sem Tryz.prog 35 vals bs Q:=
 oZ (keeps:=[(0,[2,3]),(1,[4])]) (solo:=[]) Tryz.func35 rfl hn h
def hO:RC:=
 (.seq (rR [0,1] [oQ 4 (.mov (.c (.bool false)))]) (.seq (rR [4] [qM 5 0,qM 6 1,oQ 7 (cF 96 [5,6]),oQ 8 (.bin .eql 7 (.c (.int .i64 0))),qM 4 8]) .ret))
theorem ij(hn:vals.length<=9)(h:SP Tryz.prog true vals bs hO [.slot 4] Q):AM.Sem Tryz.prog 69 vals bs Q:=
 oZ (keeps:=[(0,[0,1]),(1,[4])]) (solo:=[]) Tryz.func69 rfl hn h
theorem uK(hn:vals.length<=17)(h:SP Tryz.prog false vals bs vQ [] Q):AM.Sem Tryz.prog 107 vals bs Q:=
 oZ (keeps:=[(0,[0,1,5,6]),(1,[0,1,5,6,7]),(2,[0,1,3,5,6]),(3,[0,1,5,6,15]),(4,[0,1,5,6])]) (solo:=[]) Tryz.func107 rfl hn h
theorem y9(hn:vals.length<=26)(h:SP Tryz.prog false vals bs Ce [.slot 4] Q):AM.Sem Tryz.prog 108 vals bs Q:=
 oZ (keeps:=[(0,[1,2]),(1,[1,2,9]),(2,[4]),(3,[1,15,16,17]),(4,[1,15,16,17,18]),(5,[1,6,15,16,17]),(6,[1,15,16,17,24]),(7,[4]),(8,[1,15,16,17]),(9,[4])]) (solo:=[]) Tryz.func108 rfl hn h
theorem eh(hn:vals.length<=37)(h:SP Tryz.prog false vals bs lF [.slot 4] Q):AM.Sem Tryz.prog 98 vals bs Q:=
 oZ (keeps:=[(0,[0,3]),(1,[0,3,16]),(2,[0,3]),(3,[0,5]),(4,[0,5,6]),(5,[0,5,6,27]),(7,[0,5,6]),(6,[0,5,6]),(8,[4]),(1000000,[21])]) (solo:=[]) Tryz.func98 rfl hn h
theorem lg(hn:vals.length<=5)(h:SP Tryz.prog false vals bs lJ [.slot 2] Q):AM.Sem Tryz.prog 81 vals bs Q:=
 oZ (keeps:=[(0,[1]),(1,[2])]) (solo:=[]) Tryz.func81 rfl hn h
end Go.CK
