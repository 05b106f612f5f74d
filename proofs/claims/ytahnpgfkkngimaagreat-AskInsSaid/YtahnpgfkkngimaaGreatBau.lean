/-
  Texts of this aQ joined (wip/gen/bundle.py),those declarations only that are needed:Lay RcTrm TrmA. By an AI agent.
-/
import Derived.Ground.NamesProg
import Derived.Ground.GgzProg
import Derived.Ground.GgwProg
import Derived.Shelf.Sort.Plain
import Derived.Shelf.Slices.In.SortNone
import Derived.Shelf.SlIterI.Sorted
import Derived.Shelf.SlIterI.Collect
import Derived.Shelf.SlIterI.Keys
import Derived.Shelf.GgClosure.StringsIndexFuncTop
import Derived.Shelf.Strings.Search3
import Derived.Test.YtahnpgfkkngimaaGreatProg
import Derived.Test.YtahnpgfkkngimaaGreatBat
set_option linter.unusedSimpArgs false
set_option linter.unusedVariables false
set_option maxRecDepth 100000
namespace Go.Proofs
open Go.Shelf
def Tryz.laysSort_ren:Go.Shelf.Ren:=⟨λ|189=>173|125=>182|257=>181|128=>194|129=>195|294=>185|295=>186|296=>187|297=>188|298=>189|299=>190|216=>191|300=>192|301=>193|328=>200|329=>201|330=>202|331=>203|332=>204|215=>157|343=>207|n=>n,λ|28=>30|3=>3|46=>172|0=>0|51=>182|53=>184|4=>4|183=>176|182=>175|131=>137|5=>5|9=>9|218=>186|222=>190|228=>194|229=>195|n=>n,λ|n=>n⟩
theorem Tryz.AH:Go.Proofs.Lays.n189 Tryz.prog Tryz.laysSort_ren:={
 mixed:=by kernel_rfl,
 f125:=Tryz.func182.trans (congrArg some (by kernel_rfl)),
 f128:=Tryz.func194.trans (congrArg some (by kernel_rfl)),
 f129:=Tryz.func195.trans (congrArg some (by kernel_rfl)),
 f189:=Tryz.func173.trans (congrArg some (by kernel_rfl)),
 f215:=Tryz.func157.trans (congrArg some (by kernel_rfl)),
 f216:=Tryz.func191.trans (congrArg some (by kernel_rfl)),
 f257:=Tryz.func181.trans (congrArg some (by kernel_rfl)),
 f294:=Tryz.func185.trans (congrArg some (by kernel_rfl)),
 f295:=Tryz.func186.trans (congrArg some (by kernel_rfl)),
 f296:=Tryz.func187.trans (congrArg some (by kernel_rfl)),
 f297:=Tryz.func188.trans (congrArg some (by kernel_rfl)),
 f298:=Tryz.func189.trans (congrArg some (by kernel_rfl)),
 f299:=Tryz.func190.trans (congrArg some (by kernel_rfl)),
 f300:=Tryz.func192.trans (congrArg some (by kernel_rfl)),
 f301:=Tryz.func193.trans (congrArg some (by kernel_rfl)),
 f328:=Tryz.func200.trans (congrArg some (by kernel_rfl)),
 f329:=Tryz.func201.trans (congrArg some (by kernel_rfl)),
 f330:=Tryz.func202.trans (congrArg some (by kernel_rfl)),
 f331:=Tryz.func203.trans (congrArg some (by kernel_rfl)),
 f332:=Tryz.func204.trans (congrArg some (by kernel_rfl)),
 f343:=Tryz.func207.trans (congrArg some (by kernel_rfl)),
 t0:=Tryz.underlying0,
 a0:=Tryz.isAgg0,
 z0:=Tryz.sizeOf0,
 v0:=Tryz.zeroValue0,
 t3:=Tryz.underlying3,
 a3:=Tryz.isAgg3,
 z3:=Tryz.sizeOf3,
 v3:=Tryz.zeroValue3,
 t4:=Tryz.underlying4,
 a4:=Tryz.isAgg4,
 z4:=Tryz.sizeOf4,
 v4:=Tryz.zeroValue4,
 t5:=Tryz.underlying5,
 a5:=Tryz.isAgg5,
 z5:=Tryz.sizeOf5,
 v5:=Tryz.zeroValue5,
 t9:=Tryz.underlying9,
 a9:=Tryz.isAgg9,
 z9:=Tryz.sizeOf9,
 v9:=Tryz.zeroValue9,
 t28:=Tryz.underlying30,
 a28:=Tryz.isAgg30,
 z28:=Tryz.sizeOf30,
 v28:=Tryz.zeroValue30,
 t46:=Tryz.underlying172,
 a46:=Tryz.isAgg172,
 z46:=Tryz.sizeOf172,
 v46:=Tryz.zeroValue172,
 t51:=Tryz.underlying182,
 a51:=Tryz.isAgg182,
 z51:=Tryz.sizeOf182,
 v51:=Tryz.zeroValue182,
 t53:=Tryz.underlying184,
 a53:=Tryz.isAgg184,
 z53:=Tryz.sizeOf184,
 v53:=Tryz.zeroValue184,
 t131:=Tryz.underlying137,
 a131:=Tryz.isAgg137,
 z131:=Tryz.sizeOf137,
 v131:=Tryz.zeroValue137,
 t182:=Tryz.underlying175,
 a182:=Tryz.isAgg175,
 z182:=Tryz.sizeOf175,
 v182:=Tryz.zeroValue175,
 t183:=Tryz.underlying176,
 a183:=Tryz.isAgg176,
 z183:=Tryz.sizeOf176,
 v183:=Tryz.zeroValue176,
 t218:=Tryz.underlying186,
 a218:=Tryz.isAgg186,
 z218:=Tryz.sizeOf186,
 v218:=Tryz.zeroValue186,
 t222:=Tryz.underlying190,
 a222:=Tryz.isAgg190,
 z222:=Tryz.sizeOf190,
 v222:=Tryz.zeroValue190,
 t228:=Tryz.underlying194,
 a228:=Tryz.isAgg194,
 z228:=Tryz.sizeOf194,
 v228:=Tryz.zeroValue194,
 t229:=Tryz.underlying195,
 a229:=Tryz.isAgg195,
 z229:=Tryz.sizeOf195,
 v229:=Tryz.zeroValue195}
def Tryz.laysContains_ren:Go.Shelf.Ren:=⟨λ|144=>170|143=>179|219=>184|217=>196|225=>197|224=>198|267=>199|266=>205|314=>206|n=>n,λ|9=>9|4=>4|3=>3|5=>5|46=>172|146=>192|51=>182|n=>n,λ|1=>0|n=>n⟩
theorem Tryz.yY:Go.Proofs.Lays.n144 Tryz.prog Tryz.laysContains_ren:={
 mixed:=by kernel_rfl,
 f143:=Tryz.func179.trans (congrArg some (by kernel_rfl)),
 f144:=Tryz.func170.trans (congrArg some (by kernel_rfl)),
 f217:=Tryz.func196.trans (congrArg some (by kernel_rfl)),
 f219:=Tryz.func184.trans (congrArg some (by kernel_rfl)),
 f224:=Tryz.func198.trans (congrArg some (by kernel_rfl)),
 f225:=Tryz.func197.trans (congrArg some (by kernel_rfl)),
 f266:=Tryz.func205.trans (congrArg some (by kernel_rfl)),
 f267:=Tryz.func199.trans (congrArg some (by kernel_rfl)),
 f314:=Tryz.func206.trans (congrArg some (by kernel_rfl)),
 t3:=Tryz.underlying3,
 a3:=Tryz.isAgg3,
 z3:=Tryz.sizeOf3,
 v3:=Tryz.zeroValue3,
 t4:=Tryz.underlying4,
 a4:=Tryz.isAgg4,
 z4:=Tryz.sizeOf4,
 v4:=Tryz.zeroValue4,
 t5:=Tryz.underlying5,
 a5:=Tryz.isAgg5,
 z5:=Tryz.sizeOf5,
 v5:=Tryz.zeroValue5,
 t9:=Tryz.underlying9,
 a9:=Tryz.isAgg9,
 z9:=Tryz.sizeOf9,
 v9:=Tryz.zeroValue9,
 t46:=Tryz.underlying172,
 a46:=Tryz.isAgg172,
 z46:=Tryz.sizeOf172,
 v46:=Tryz.zeroValue172,
 t51:=Tryz.underlying182,
 a51:=Tryz.isAgg182,
 z51:=Tryz.sizeOf182,
 v51:=Tryz.zeroValue182,
 t146:=Tryz.underlying192,
 a146:=Tryz.isAgg192,
 z146:=Tryz.sizeOf192,
 v146:=Tryz.zeroValue192,
 g1:=by kernel_rfl}
def Tryz.laysIndexFunc_ren:Go.Shelf.Ren:=⟨λ|15=>177|20=>183|n=>n,λ|9=>9|23=>168|3=>3|4=>4|0=>0|21=>21|n=>n,λ|n=>n⟩
theorem Tryz.wB:Go.Proofs.LaysGw.n15 Tryz.prog Tryz.laysIndexFunc_ren:={
 mixed:=by kernel_rfl,
 f15:=Tryz.func177.trans (congrArg some (by kernel_rfl)),
 f20:=Tryz.func183.trans (congrArg some (by kernel_rfl)),
 t0:=Tryz.underlying0,
 a0:=Tryz.isAgg0,
 z0:=Tryz.sizeOf0,
 v0:=Tryz.zeroValue0,
 i0:=by kernel_rfl,
 t3:=Tryz.underlying3,
 a3:=Tryz.isAgg3,
 z3:=Tryz.sizeOf3,
 v3:=Tryz.zeroValue3,
 i3:=by kernel_rfl,
 t4:=Tryz.underlying4,
 a4:=Tryz.isAgg4,
 z4:=Tryz.sizeOf4,
 v4:=Tryz.zeroValue4,
 i4:=by kernel_rfl,
 t9:=Tryz.underlying9,
 a9:=Tryz.isAgg9,
 z9:=Tryz.sizeOf9,
 v9:=Tryz.zeroValue9,
 i9:=by kernel_rfl,
 t21:=Tryz.underlying21,
 a21:=Tryz.isAgg21,
 z21:=Tryz.sizeOf21,
 v21:=Tryz.zeroValue21,
 i21:=by kernel_rfl,
 t23:=Tryz.underlying168,
 a23:=Tryz.isAgg168,
 z23:=Tryz.sizeOf168,
 v23:=Tryz.zeroValue168,
 i23:=by kernel_rfl}
def Tryz.laysSorted_ren:Go.Shelf.Ren:=⟨λ|6=>148|8=>172|9=>173|11=>180|13=>182|12=>181|23=>194|24=>195|14=>185|15=>186|16=>187|17=>188|18=>189|19=>190|20=>191|21=>192|22=>193|25=>200|26=>201|27=>202|28=>203|29=>204|30=>157|31=>207|n=>n,λ|26=>3|28=>97|24=>30|0=>0|3=>3|37=>172|48=>182|50=>184|4=>4|40=>176|39=>175|45=>137|5=>5|9=>9|51=>186|55=>190|57=>194|58=>195|33=>91|n=>n,λ|n=>n⟩
theorem Tryz.CI:Go.Proofs.SlLaysZI.n6 Tryz.prog Tryz.laysSorted_ren:={
 mixed:=by kernel_rfl,
 f6 := ⟨ "slices.Sorted[int]", by decide, Tryz.func148.trans (congrArg some (by kernel_rfl))⟩,
 f8 := ⟨ "slices.Collect[int]", by decide, Tryz.func172.trans (congrArg some (by kernel_rfl))⟩,
 f11 := ⟨ "slices.AppendSeq[[]int,int]", by decide, Tryz.func180.trans (congrArg some (by kernel_rfl))⟩,
 t0:=Tryz.underlying0,
 a0:=Tryz.isAgg0,
 z0:=Tryz.sizeOf0,
 v0:=Tryz.zeroValue0,
 t24:=Tryz.underlying30,
 a24:=Tryz.isAgg30,
 z24:=Tryz.sizeOf30,
 v24:=Tryz.zeroValue30,
 t26:=Tryz.underlying3,
 a26:=Tryz.isAgg3,
 z26:=Tryz.sizeOf3,
 v26:=Tryz.zeroValue3,
 t28:=Tryz.underlying97,
 a28:=Tryz.isAgg97,
 z28:=Tryz.sizeOf97,
 v28:=Tryz.zeroValue97,
 i26:=by kernel_rfl}
def Tryz.laysKeys_ren:Go.Shelf.Ren:=⟨λ|7=>149|10=>174|n=>n,λ|23=>131|26=>3|3=>3|28=>97|0=>0|27=>96|33=>91|4=>4|n=>n,λ|n=>n⟩
theorem Tryz.G9:Go.Proofs.SlLaysZI.n7 Tryz.prog Tryz.laysKeys_ren:={
 mixed:=by kernel_rfl,
 f7 := ⟨ "maps.Keys[map[int]int,int,int]", by decide, Tryz.func149.trans (congrArg some (by kernel_rfl))⟩,
 f10 := ⟨ "maps.Keys[map[int]int,int,int]$1", by decide, Tryz.func174.trans (congrArg some (by kernel_rfl))⟩,
 t0:=Tryz.underlying0,
 a0:=Tryz.isAgg0,
 z0:=Tryz.sizeOf0,
 v0:=Tryz.zeroValue0,
 t4:=Tryz.underlying4,
 a4:=Tryz.isAgg4,
 z4:=Tryz.sizeOf4,
 v4:=Tryz.zeroValue4,
 t23:=Tryz.underlying131,
 a23:=Tryz.isAgg131,
 z23:=Tryz.sizeOf131,
 v23:=Tryz.zeroValue131,
 t26:=Tryz.underlying3,
 a26:=Tryz.isAgg3,
 z26:=Tryz.sizeOf3,
 v26:=Tryz.zeroValue3,
 t27:=Tryz.underlying96,
 a27:=Tryz.isAgg96,
 z27:=Tryz.sizeOf96,
 v27:=Tryz.zeroValue96,
 t28:=Tryz.underlying97,
 a28:=Tryz.isAgg97,
 z28:=Tryz.sizeOf97,
 v28:=Tryz.zeroValue97,
 t33:=Tryz.underlying91,
 a33:=Tryz.isAgg91,
 z33:=Tryz.sizeOf91,
 v33:=Tryz.zeroValue91}
end Go.Proofs
namespace Go.CK
open Go.AM Go.Proofs
abbrev rR(k:List Nat)(o:List ROp):RC:=.reg false k o
abbrev cF(n:Nat)(a:List Opd):RX:=.call (.c (.fn (.func n) [] [])) a
abbrev oQ(d:Nat)(x:RX):ROp:=⟨some d,none,x⟩
abbrev oG(d g:Nat)(b:Bool)(x:RX):ROp:=⟨some d,some (g,b),x⟩
abbrev oN(x:RX):ROp:=⟨none,none,x⟩
abbrev qM(d a:Nat):ROp:=oQ d (.mov (.t a))
abbrev qK(d a:Nat):ROp:=oQ d (.iR (.t a))
abbrev qF(d k a:Nat):ROp:=oQ d (.aT k (.t a))
abbrev qL(d a:Nat):ROp:=oQ d (.load false 1 (.t a))
abbrev qA(d z a:Nat):ROp:=oQ d (.load true z (.t a))
abbrev qI(d z a b:Nat):ROp:=oQ d (.idx z (.t a) (.t b))
abbrev SP(P:Program)(b:Bool)(vals:List AV)(bs:List Box)(c:RC)(rs:List cm)(Q:AV->List Box->Prop):Prop:=(⟨params 0 vals,bs,bs.length⟩:St).fo b λs=>c.gp P b s (KW rs Q)
theorem oZ{P:Program}{f:FuncId}{fn:Func}{c:Code}{rc:RC}{keeps:List (Nat×List Nat)}{solo:List (Nat×Nat)}{rs:List cm}{fb:Bool}{vals:List AV}{bs:List Box}{Q:AV->List Box->Prop}(hf:P.funcs[f]? =some fn)(hb:fn.body=some c)(hn:vals.length<=fn.ntmps)(h:SP P fb vals bs rc rs Q)(hm:P.follows .mixedOrders=true:=by kernel_rfl)(hc:dR P fn.ntmps keeps solo true c=some rc:=by kernel_rfl)(hr:lX P fn.results.toList=some rs:=by kernel_rfl):AM.Sem P f vals bs Q:=Sem.nrm (Sem.of hf hb hm hc hr hn (JW h))
variable{vals:List AV}{bs:List Box}{Q:AV->List Box->Prop}
def wa:RC:=
 (.seq (rR [0] [oQ 2 (.mov (.c (.int .i64 0)))]) (.seq (rR [0,3] [oQ 3 (.mov (.c (.int .i64 0)))]) (.seq (.seq (rR [3,6,7,8] [qM 6 0,oQ 7 (.len false (.t 6)),oQ 8 (.mov (.c (.int .i64 0)))]) (.block 0 (.loop (.seq (rR [3,6,7,8,9] [oQ 9 (.bin .lss (.t 8) (.t 7))]) (.seq (.cond (.t 9) .skip (.exit 0)) (.seq (.block 1 (.seq (rR [3,5,6,7,8] [qI 10 1 6 8,qL 11 10,qM 5 11]) (.seq (rR [3,5,6,7,8,14] [qM 12 5,qM 13 3,oQ 14 (.bin .neq (.t 12) (.t 13))]) (.cond (.t 14) (.seq (rR [2] [qM 15 5,qM 2 15]) .ret) .skip)))) (rR [3,6,7,8] [oQ 16 (.bin .add (.t 8) (.c (.int .i64 1))),qM 8 16]))))))) (.seq (rR [2] [qM 17 3,qM 2 17]) .ret))))
theorem wq(hn:vals.length<=18)(h:SP Tryz.prog true vals bs wa [.slot 2] Q):AM.Sem Tryz.prog 124 vals bs Q:=
 oZ (keeps:=[(0,[0]),(1,[0,3]),(2,[3,6,7,8]),(3,[3,6,7,8,9]),(4,[3,5,6,7,8]),(5,[3,5,6,7,8,14]),(6,[2]),(7,[3,6,7,8]),(8,[2])]) (solo:=[]) Tryz.func124 rfl hn h
def mr:RC:=
 (.seq (rR [0,1] [oQ 4 (.mov (.c (.int .i64 0)))]) (.seq (rR [0,1,5] [qM 7 0,oQ 8 (cF 158 [(.t 7)]),qM 5 8]) (.seq (rR [0,1,5,6] [qM 9 1,oQ 10 (cF 158 [(.t 9)]),qM 6 10]) (.seq (.seq (rR [0,1,6,11] [qM 11 5]) (.cond (.t 11) (.seq (.seq (rR [12] [qM 12 6]) (.cond (.t 12) (.seq (rR [4] [oQ 4 (.mov (.c (.int .i64 0)))]) .ret) .skip)) (.seq (rR [4] [oQ 4 (.mov (.c (.int .i64 (-1))))]) .ret)) .skip)) (.seq (.seq (rR [0,1,13] [qM 13 6]) (.cond (.t 13) (.seq (rR [4] [oQ 4 (.mov (.c (.int .i64 1)))]) .ret) .skip)) (.seq (.seq (rR [0,1,16] [qM 14 0,qM 15 1,oQ 16 (.bin .lss (.t 14) (.t 15))]) (.cond (.t 16) (.seq (rR [4] [oQ 4 (.mov (.c (.int .i64 (-1))))]) .ret) .skip)) (.seq (.seq (rR [19] [qM 17 0,qM 18 1,oQ 19 (.bin .gtr (.t 17) (.t 18))]) (.cond (.t 19) (.seq (rR [4] [oQ 4 (.mov (.c (.int .i64 1)))]) .ret) .skip)) (.seq (rR [4] [oQ 4 (.mov (.c (.int .i64 0)))])
 .ret))))))))
theorem my(hn:vals.length<=20)(h:SP Tryz.prog true vals bs mr [.slot 4] Q):AM.Sem Tryz.prog 123 vals bs Q:=
 oZ (keeps:=[(0,[0,1]),(1,[0,1,5]),(2,[0,1,5,6]),(3,[0,1,6,11]),(4,[12]),(5,[4]),(6,[4]),(7,[0,1,13]),(8,[4]),(9,[0,1,16]),(10,[4]),(11,[19]),(12,[4]),(13,[4])]) (solo:=[]) Tryz.func123 rfl hn h
def oW:RC:=
 (.seq (rR [0,1] [oQ 4 (.mov (.c (.int .i64 0)))]) (.seq (rR [0,1,5] [qM 7 0,oQ 8 (cF 157 [(.t 7)]),qM 5 8]) (.seq (rR [0,1,5,6] [qM 9 1,oQ 10 (cF 157 [(.t 9)]),qM 6 10]) (.seq (.seq (rR [0,1,6,11] [qM 11 5]) (.cond (.t 11) (.seq (.seq (rR [12] [qM 12 6]) (.cond (.t 12) (.seq (rR [4] [oQ 4 (.mov (.c (.int .i64 0)))]) .ret) .skip)) (.seq (rR [4] [oQ 4 (.mov (.c (.int .i64 (-1))))]) .ret)) .skip)) (.seq (.seq (rR [0,1,13] [qM 13 6]) (.cond (.t 13) (.seq (rR [4] [oQ 4 (.mov (.c (.int .i64 1)))]) .ret) .skip)) (.seq (.seq (rR [0,1,16] [qM 14 0,qM 15 1,oQ 16 (.bin .lss (.t 14) (.t 15))]) (.cond (.t 16) (.seq (rR [4] [oQ 4 (.mov (.c (.int .i64 (-1))))]) .ret) .skip)) (.seq (.seq (rR [19] [qM 17 0,qM 18 1,oQ 19 (.bin .gtr (.t 17) (.t 18))]) (.cond (.t 19) (.seq (rR [4] [oQ 4 (.mov (.c (.int .i64 1)))]) .ret) .skip)) (.seq (rR [4] [oQ 4 (.mov (.c (.int .i64 0)))])
 .ret))))))))
theorem o0(hn:vals.length<=20)(h:SP Tryz.prog true vals bs oW [.slot 4] Q):AM.Sem Tryz.prog 121 vals bs Q:=
 oZ (keeps:=[(0,[0,1]),(1,[0,1,5]),(2,[0,1,5,6]),(3,[0,1,6,11]),(4,[12]),(5,[4]),(6,[4]),(7,[0,1,13]),(8,[4]),(9,[0,1,16]),(10,[4]),(11,[19]),(12,[4]),(13,[4])]) (solo:=[]) Tryz.func121 rfl hn h
def qO:RC:=
 (.seq (rR [0] [oQ 2 (.mov (.c (.bool false)))]) (.seq (rR [2] [qM 3 0,qM 4 0,oQ 5 (.bin .neq (.t 3) (.t 4)),qM 2 5]) .ret))
theorem qW(hn:vals.length<=6)(h:SP Tryz.prog true vals bs qO [.slot 2] Q):AM.Sem Tryz.prog 157 vals bs Q:=
 oZ (keeps:=[(0,[0]),(1,[2])]) (solo:=[]) Tryz.func157 rfl hn h
def ot:RC:=
 (.seq (rR [0] [oQ 2 (.mov (.c (.bool false)))]) (.seq (rR [2] [qM 3 0,qM 4 0,oQ 5 (.bin .neq (.t 3) (.t 4)),qM 2 5]) .ret))
theorem ov(hn:vals.length<=6)(h:SP Tryz.prog true vals bs ot [.slot 2] Q):AM.Sem Tryz.prog 158 vals bs Q:=
 oZ (keeps:=[(0,[0]),(1,[2])]) (solo:=[]) Tryz.func158 rfl hn h
def sG:RC:=
 (.seq (rR [2,3] [oQ 2 (.box (.t 0)),oQ 3 (.box (.t 1)),oQ 4 (.mov (.c (.int .i64 0)))]) (.seq (.seq (.reg true [2,3,5] [qF 8 0 2,qL 9 8,oQ 10 (cF 122 [(.t 9)]),qF 11 0 3,qL 12 11,oQ 13 (cF 122 [(.t 12)]),oQ 14 (cF 121 [(.t 10),(.t 13)]),oQ 5 (.take 14)]) (.seq (rR [2,3,5,16] [qM 15 5,oQ 16 (.bin .neq (.t 15) (.c (.int .i64 0)))]) (.cond (.t 16) (.seq (rR [4] [qM 17 5,qM 4 17]) .ret) .skip))) (.seq (.seq (rR [2,3,20] [qF 18 0 2,qL 19 18,oQ 20 (cF 122 [(.t 19)])]) (.block 0 (.seq (.seq (rR [2,3,20,21] [oQ 22 (.bin .eql (.t 20) (.c (.int .i64 0))),qM 21 22]) (.cond (.t 21) .skip (rR [2,3,20,21] [oQ 23 (.bin .eql (.t 20) (.c (.int .i64 1))),qM 21 23]))) (.cond (.t 21) (.seq (rR [4] [qF 24 1 2,qL 25 24,qF 26 1 3,qL 27 26,oQ 28 (cF 121 [(.t 25),(.t 27)]),qM 4 28]) .ret) (.seq (rR [2,3,29] [oQ 30 (.bin .eql (.t 20) (.c (.int .i64 2))),qM 29 30]) (.cond (.t 29)
 (.seq (.seq (rR [2,3,6] [qF 31 3 2,qL 32 31,oQ 33 (.len false (.t 32)),qF 34 3 3,qL 35 34,oQ 36 (.len false (.t 35)),oQ 37 (cF 121 [(.t 33),(.t 36)]),qM 6 37]) (.seq (rR [2,3,6,39] [qM 38 6,oQ 39 (.bin .neq (.t 38) (.c (.int .i64 0)))]) (.cond (.t 39) (.seq (rR [4] [qM 40 6,qM 4 40]) .ret) .skip))) (.seq (.seq (rR [2,3,7] [qF 41 2 2,qL 42 41,qF 43 2 3,qL 44 43,oQ 45 (cF 123 [(.t 42),(.t 44)]),qM 7 45]) (.seq (rR [2,3,7,47] [qM 46 7,oQ 47 (.bin .neq (.t 46) (.c (.int .i64 0)))]) (.cond (.t 47) (.seq (rR [4] [qM 48 7,qM 4 48]) .ret) .skip))) (.seq (rR [4] [qF 49 3 2,qL 50 49,qF 51 3 3,qL 52 51,oQ 53 (cF 103 [(.t 50),(.t 52)]),qM 4 53]) .ret))) .skip)))))) (.seq (.reg true [4] [qF 54 0 2,qL 55 54,qF 56 0 3,qL 57 56,oQ 58 (cF 121 [(.t 55),(.t 57)]),qF 59 1 2,qL 60 59,qF 61 1 3,qL 62 61,oQ 63 (cF 121 [(.t 60),(.t 62)]),qF 64 2 2,qL 65 64,qF 66 2 3,qL 67 66,oQ 68 (cF 123 [(.t 65),(.t 67)]),oQ 69 (.aG 1 [(.t 58),(.t 63),(.t 68)]),oQ 70 (cF 124 [(.t 69)]),oQ 4 (.take 70)])
 .ret))))
theorem sK(hn:vals.length<=71)(h:SP Tryz.prog true vals bs sG [.slot 4] Q):AM.Sem Tryz.prog 86 vals bs Q:=
 oZ (keeps:=[(0,[2,3]),(1,[2,3,5]),(2,[2,3,5,16]),(3,[4]),(4,[2,3,20]),(5,[2,3,20,21]),(6,[2,3,20,21]),(8,[2,3,29]),(9,[2,3,6]),(10,[2,3,6,39]),(11,[4]),(12,[2,3,7]),(13,[2,3,7,47]),(14,[4]),(15,[4]),(7,[4]),(16,[4])]) (solo:=[]) Tryz.func86 rfl hn h
def yE:RC:=
 (.seq (rR [1] [oQ 1 (.box (.t 0)),oQ 2 (.mov (.c (.sl .full [])))]) (.seq (.seq (rR [1,5] [qF 3 0 1,qL 4 3,oQ 5 (.bin .eql (.t 4) (.c (.int .i64 2)))]) (.cond (.t 5) (.seq (rR [2] [qF 6 3 1,qL 7 6,qM 2 7]) .ret) .skip)) (.seq (rR [2] [oQ 2 (.mov (.c (.sl .full [])))]) .ret)))
theorem yM(hn:vals.length<=8)(h:SP Tryz.prog true vals bs yE [.slot 2] Q):AM.Sem Tryz.prog 167 vals bs Q:=
 oZ (keeps:=[(0,[1]),(1,[1,5]),(2,[2]),(3,[2])]) (solo:=[]) Tryz.func167 rfl hn h
def yC:RC:=
 (.seq (rR [0,1] [oQ 4 (.mov (.c (.int .i64 0)))]) (.seq (.seq (rR [0,1,8,9] [qM 7 0,oQ 8 (.len false (.t 7)),oQ 9 (.mov (.c (.int .i64 0)))]) (.block 0 (.loop (.seq (rR [0,1,8,9,10] [oQ 10 (.bin .lss (.t 9) (.t 8))]) (.seq (.cond (.t 10) .skip (.exit 0)) (.seq (.block 1 (.seq (rR [0,1,5,8,9] [qM 11 9,qM 5 11]) (.seq (.reg true [0,1,6,8,9] [qM 12 0,qM 13 5,qI 14 4 12 13,qA 15 4 14,qM 16 1,qM 17 5,qI 18 4 16 17,qA 19 4 18,oQ 20 (cF 86 [(.t 15),(.t 19)]),oQ 6 (.take 20)]) (.seq (rR [0,1,6,8,9,22] [qM 21 6,oQ 22 (.bin .neq (.t 21) (.c (.int .i64 0)))]) (.cond (.t 22) (.seq (rR [4] [qM 23 6,qM 4 23]) .ret) .skip))))) (rR [0,1,8,9] [oQ 24 (.bin .add (.t 9) (.c (.int .i64 1))),qM 9 24]))))))) (.seq (rR [4] [oQ 4 (.mov (.c (.int .i64 0)))]) .ret)))
theorem yK(hn:vals.length<=25)(h:SP Tryz.prog true vals bs yC [.slot 4] Q):AM.Sem Tryz.prog 103 vals bs Q:=
 oZ (keeps:=[(0,[0,1]),(1,[0,1,8,9]),(2,[0,1,8,9,10]),(3,[0,1,5,8,9]),(4,[0,1,6,8,9]),(5,[0,1,6,8,9,22]),(6,[4]),(7,[0,1,8,9]),(8,[4])]) (solo:=[]) Tryz.func103 rfl hn h
def yA:RC:=
 (.seq (rR [0] [oQ 2 (.mov (.c (.int .i64 0)))]) (.seq (.seq (rR [3] [qM 3 0]) (.block 0 (.seq (rR [3,4] [oQ 5 (.bin .eql (.t 3) (.c (.int .i64 1))),qM 4 5]) (.cond (.t 4) (.seq (rR [2] [oQ 2 (.mov (.c (.int .i64 0)))]) .ret) (.seq (rR [3,6] [oQ 7 (.bin .eql (.t 3) (.c (.int .i64 0))),qM 6 7]) (.cond (.t 6) (.seq (rR [2] [oQ 2 (.mov (.c (.int .i64 1)))]) .ret) (.seq (rR [8] [oQ 9 (.bin .eql (.t 3) (.c (.int .i64 2))),qM 8 9]) (.cond (.t 8) (.seq (rR [2] [oQ 2 (.mov (.c (.int .i64 2)))]) .ret) .skip)))))))) (.seq (rR [2] [oQ 2 (.mov (.c (.int .i64 3)))]) .ret)))
theorem yI(hn:vals.length<=10)(h:SP Tryz.prog true vals bs yA [.slot 2] Q):AM.Sem Tryz.prog 122 vals bs Q:=
 oZ (keeps:=[(0,[0]),(1,[3]),(2,[3,4]),(4,[3,6]),(6,[8]),(7,[2]),(5,[2]),(3,[2]),(8,[2])]) (solo:=[]) Tryz.func122 rfl hn h
def yD:RC:=
 (.seq (rR [1] [oQ 1 (.box (.t 0)),oQ 2 (.mov (.c .nfn))]) (.seq (rR [2] [oQ 3 (.ug (.func 131) [] [(.t 1)]),qM 2 3]) .ret))
theorem yL(hn:vals.length<=4)(h:SP Tryz.prog true vals bs yD [.slot 2] Q):AM.Sem Tryz.prog 97 vals bs Q:=
 oZ (keeps:=[(0,[1]),(1,[2])]) (solo:=[]) Tryz.func97 rfl hn h
def yG:RC:=
 (.seq (rR [2,3] [oQ 2 (.box (.t 0)),oQ 3 (.box (.t 1)),oQ 4 (.mov (.c (.bool false)))]) (.seq (rR [4] [qA 5 4 2,qA 6 4 3,oQ 7 (cF 86 [(.t 5),(.t 6)]),oQ 8 (.bin .eql (.t 7) (.c (.int .i64 0))),qM 4 8]) .ret))
theorem yO(hn:vals.length<=9)(h:SP Tryz.prog true vals bs yG [.slot 4] Q):AM.Sem Tryz.prog 46 vals bs Q:=
 oZ (keeps:=[(0,[2,3]),(1,[4])]) (solo:=[]) Tryz.func46 rfl hn h
def zY:RC:=
 (.seq (rR [0,2] [oQ 2 (.box (.c (.agg [(.int .i64 0),(.int .i64 0),(.str ⟨⟨[]⟩⟩),(.sl .full [])])))]) (.seq (rR [2] [qM 3 0,oQ 4 (.build [(.int .i64 0),(.int .i64 0),(.str ⟨⟨[]⟩⟩),(.sl .full [])] [(0,1,(.c (.int .i64 1))),(1,1,(.t 3))]),oN (.store 4 (.t 2) (.t 4))]) .ret))
theorem Ah(hn:vals.length<=5)(h:SP Tryz.prog true vals bs zY [.cell 2 true 4] Q):AM.Sem Tryz.prog 81 vals bs Q:=
 oZ (keeps:=[(0,[0,2]),(1,[2])]) (solo:=[]) Tryz.func81 rfl hn h
def tC:RC:=
 (.seq (rR [0,1,5,6] [qL 4 1,oQ 5 (.len false (.t 4)),oQ 6 (.mov (.c (.int .i64 0)))]) (.block 0 (.loop (.seq (rR [0,1,5,6,7] [oQ 7 (.bin .lss (.t 6) (.t 5))]) (.seq (.cond (.t 7) .skip (.exit 0)) (.seq (.block 1 (.seq (rR [0,1,3,5,6] [qM 8 6,qM 3 8]) (.seq (rR [0,1,5,6,15] [qL 9 1,qM 10 3,qI 11 4 9 10,qA 12 4 11,qM 13 0,oQ 14 (cF 132 [(.t 12),(.t 13)]),oQ 15 (.un .not (.t 14))]) (.cond (.t 15) .ret .skip)))) (rR [0,1,5,6] [oQ 16 (.bin .add (.t 6) (.c (.int .i64 1))),qM 6 16])))))))
def yz:RC:=
 (.seq (rR [1,2] [oQ 2 (.box (.t 0)),oQ 4 (.mov (.c (.bool false)))]) (.seq (.seq (rR [1,2,9] [qF 7 0 2,qL 8 7,oQ 9 (.bin .eql (.t 8) (.c (.int .i64 1)))]) (.cond (.t 9) (.seq (rR [4] [qM 10 1,qF 11 1 2,qL 12 11,oQ 13 (.dD (.t 10) [(.t 12)]),qM 4 13]) .ret) .skip)) (.seq (.seq (rR [1,15,16,17] [qA 14 4 2,oQ 15 (cF 167 [(.t 14)]),oQ 16 (.len false (.t 15)),oQ 17 (.mov (.c (.int .i64 0)))]) (.block 0 (.loop (.seq (rR [1,15,16,17,18] [oQ 18 (.bin .lss (.t 17) (.t 16))]) (.seq (.cond (.t 18) .skip (.exit 0)) (.seq (.block 1 (.seq (rR [1,6,15,16,17] [qI 19 4 15 17,qA 20 4 19,oQ 6 (.box (.c (.agg [(.int .i64 0),(.int .i64 0),(.str ⟨⟨[]⟩⟩),(.sl .full [])]))),oN (.store 4 (.t 6) (.t 20))]) (.seq (rR [1,15,16,17,24] [qA 21 4 6,qM 22 1,oQ 23 (cF 132 [(.t 21),(.t 22)]),oQ 24 (.un .not (.t 23))]) (.cond (.t 24) (.seq (rR [4] [oQ 4 (.mov (.c (.bool false)))])
 .ret) .skip)))) (rR [1,15,16,17] [oQ 25 (.bin .add (.t 17) (.c (.int .i64 1))),qM 17 25]))))))) (.seq (rR [4] [oQ 4 (.mov (.c (.bool true)))]) .ret))))
def kg:RC:=
 (.seq (rR [0,3] [oQ 3 (.box (.t 1)),oQ 4 (.mov (.c (.sl .full [])))]) (.seq (.seq (rR [0,3,16] [qF 7 0 3,qL 8 7,oQ 9 (.bin .eql (.t 8) (.c (.int .i64 1))),qM 10 9,oG 11 10 true (.mov (.t 0)),oG 12 10 true (.aT 1 (.t 3)),oG 13 10 true (.load false 1 (.t 12)),oG 14 10 true (cF 168 [(.t 11),(.t 13)]),oG 15 10 true (.un .not (.t 14)),oQ 16 (.pick (.t 10) (.t 15) (.c (.bool false)))]) (.cond (.t 16) (rR [0,3] [qM 17 0,qF 18 1 3,qL 19 18,oQ 20 (.aG 1 [(.t 19)]),oQ 21 (.eff (.mG 1) [(.t 17),(.t 20)]),qM 0 21]) .skip)) (.seq (rR [0,5] [qA 22 4 3,oQ 23 (cF 136 [(.t 22)]),qM 5 23]) (.seq (.seq (rR [0,5,6] [oQ 6 (.mov (.c (.int .i64 0)))]) (.block 0 (.loop (.seq (.seq (rR [0,5,6,27] [qM 24 6,qM 25 5,oQ 26 (.len false (.t 25)),oQ 27 (.bin .lss (.t 24) (.t 26))]) (.cond (.t 27) .skip (.exit 0))) (.seq (.block 1 (rR [0,5,6] [qM 30 0,qM 31 5,qM 32 6,qI 33 4 31 32,qA 34 4 33,oQ 35 (cF 134 [(.t 30),(.t 34)]),qM 0 35]))
 (rR [0,5,6] [qM 28 6,oQ 29 (.bin .add (.t 28) (.c (.int .i64 1))),qM 6 29])))))) (.seq (rR [4] [qM 36 0,qM 4 36]) .ret)))))
def ku:RC:=
 (.seq (rR [1] [oQ 1 (.box (.t 0)),oQ 2 (.mov (.c (.sl .full [])))]) (.seq (rR [2] [qA 3 4 1,oQ 4 (cF 134 [(.c (.sl .full [])),(.t 3)]),qM 2 4]) .ret))
def hG:RC:=
 (.seq (rR [2,3] [oQ 2 (.box (.t 0)),oQ 3 (.box (.t 1)),oQ 4 (.mov (.c (.int .i64 0)))]) (.seq (.reg true [2,3,5] [qA 6 4 2,oQ 7 (cF 118 [(.t 6)]),qA 8 4 3,oQ 9 (cF 118 [(.t 8)]),oQ 10 (cF 117 [(.t 7),(.t 9)]),oQ 5 (.take 10)]) (.seq (.seq (rR [2,3,5,12] [qM 11 5,oQ 12 (.bin .neq (.t 11) (.c (.int .i64 0)))]) (.cond (.t 12) (.seq (rR [4] [qM 13 5,qM 4 13]) .ret) .skip)) (.seq (.seq (rR [2,3,15] [qA 14 4 2,oQ 15 (cF 118 [(.t 14)])]) (.block 0 (.seq (.seq (rR [2,3,15,16] [oQ 17 (.bin .eql (.t 15) (.c (.int .i64 0))),qM 16 17]) (.cond (.t 16) .skip (rR [2,3,15,16] [oQ 18 (.bin .eql (.t 15) (.c (.int .i64 1))),qM 16 18]))) (.cond (.t 16) (.seq (rR [4] [qF 19 1 2,qL 20 19,qF 21 1 3,qL 22 21,oQ 23 (cF 117 [(.t 20),(.t 22)]),qM 4 23]) .ret) (.seq (rR [2,3,24] [oQ 25 (.bin .eql (.t 15) (.c (.int .i64 2))),qM 24 25]) (.cond (.t 24) (.seq (rR [2,3,5] [
 qF 26 3 2,qL 27 26,oQ 28 (.len false (.t 27)),qF 29 3 3,qL 30 29,oQ 31 (.len false (.t 30)),oQ 32 (cF 117 [(.t 28),(.t 31)]),qM 5 32]) (.seq (.seq (rR [2,3,5,34] [qM 33 5,oQ 34 (.bin .eql (.t 33) (.c (.int .i64 0)))]) (.cond (.t 34) (rR [2,3,5] [qF 35 2 2,qL 36 35,qF 37 2 3,qL 38 37,oQ 39 (cF 119 [(.t 36),(.t 38)]),qM 5 39]) .skip)) (.seq (.seq (rR [2,3,5,41] [qM 40 5,oQ 41 (.bin .eql (.t 40) (.c (.int .i64 0)))]) (.cond (.t 41) (rR [5] [qF 42 3 2,qL 43 42,qF 44 3 3,qL 45 44,oQ 46 (cF 120 [(.t 43),(.t 45)]),qM 5 46]) .skip)) (.seq (rR [4] [qM 47 5,qM 4 47]) .ret)))) .skip)))))) (.seq (rR [2,3,5] [qF 48 0 2,qL 49 48,qF 50 0 3,qL 51 50,oQ 52 (cF 117 [(.t 49),(.t 51)]),qM 5 52]) (.seq (.seq (rR [2,3,5,54] [qM 53 5,oQ 54 (.bin .eql (.t 53) (.c (.int .i64 0)))]) (.cond (.t 54) (rR [2,3,5] [qF 55 1 2,qL 56 55,qF 57 1 3,qL 58 57,oQ 59 (cF 117 [(.t 56),(.t 58)]),qM 5 59])
 .skip)) (.seq (.seq (rR [2,3,5,61] [qM 60 5,oQ 61 (.bin .eql (.t 60) (.c (.int .i64 0)))]) (.cond (.t 61) (rR [5] [qF 62 2 2,qL 63 62,qF 64 2 3,qL 65 64,oQ 66 (cF 119 [(.t 63),(.t 65)]),qM 5 66]) .skip)) (.seq (rR [4] [qM 67 5,qM 4 67]) .ret))))))))
theorem hZ(hn:vals.length<=68)(h:SP Tryz.prog true vals bs hG [.slot 4] Q):AM.Sem Tryz.prog 85 vals bs Q:=
 oZ (keeps:=[(0,[2,3]),(1,[2,3,5]),(2,[2,3,5,12]),(3,[4]),(4,[2,3,15]),(5,[2,3,15,16]),(6,[2,3,15,16]),(8,[2,3,24]),(9,[2,3,5]),(10,[2,3,5,34]),(11,[2,3,5]),(12,[2,3,5,41]),(13,[5]),(14,[4]),(7,[4]),(15,[2,3,5]),(16,[2,3,5,54]),(17,[2,3,5]),(18,[2,3,5,61]),(19,[5]),(20,[4])]) (solo:=[]) Tryz.func85 rfl hn h
def kq:RC:=
 (.seq (rR [1] [oQ 1 (.box (.t 0)),oQ 2 (.mov (.c (.sl .full [])))]) (.seq (.seq (rR [1,5] [qF 3 0 1,qL 4 3,oQ 5 (.bin .eql (.t 4) (.c (.int .i64 2)))]) (.cond (.t 5) (.seq (rR [2] [qF 6 3 1,qL 7 6,qM 2 7]) .ret) .skip)) (.seq (rR [2] [oQ 2 (.mov (.c (.sl .full [])))]) .ret)))
theorem kH(hn:vals.length<=8)(h:SP Tryz.prog true vals bs kq [.slot 2] Q):AM.Sem Tryz.prog 136 vals bs Q:=
 oZ (keeps:=[(0,[1]),(1,[1,5]),(2,[2]),(3,[2])]) (solo:=[]) Tryz.func136 rfl hn h
def jv:RC:=
 (.seq (rR [1] [oQ 1 (.box (.t 0)),oQ 2 (.mov (.c (.int .i64 0)))]) (.seq (.seq (rR [4] [qF 3 0 1,qL 4 3]) (.block 0 (.seq (rR [4,5] [oQ 6 (.bin .eql (.t 4) (.c (.int .i64 1))),qM 5 6]) (.cond (.t 5) (.seq (rR [2] [oQ 2 (.mov (.c (.int .i64 0)))]) .ret) (.seq (rR [4,7] [oQ 8 (.bin .eql (.t 4) (.c (.int .i64 0))),qM 7 8]) (.cond (.t 7) (.seq (rR [2] [oQ 2 (.mov (.c (.int .i64 1)))]) .ret) (.seq (rR [9] [oQ 10 (.bin .eql (.t 4) (.c (.int .i64 2))),qM 9 10]) (.cond (.t 9) (.seq (rR [2] [oQ 2 (.mov (.c (.int .i64 2)))]) .ret) .skip)))))))) (.seq (rR [2] [oQ 2 (.mov (.c (.int .i64 3)))]) .ret)))
theorem jL(hn:vals.length<=11)(h:SP Tryz.prog true vals bs jv [.slot 2] Q):AM.Sem Tryz.prog 118 vals bs Q:=
 oZ (keeps:=[(0,[1]),(1,[4]),(2,[4,5]),(4,[4,7]),(6,[9]),(7,[2]),(5,[2]),(3,[2]),(8,[2])]) (solo:=[]) Tryz.func118 rfl hn h
def jt:RC:=
 (.seq (rR [0,1] [oQ 4 (.mov (.c (.int .i64 0)))]) (.seq (.block 0 (.seq (rR [0,1,5] [qM 6 0,qM 7 1,oQ 8 (.bin .lss (.t 6) (.t 7)),qM 5 8]) (.cond (.t 5) (.seq (rR [4] [oQ 4 (.mov (.c (.int .i64 (-1))))]) .ret) (.seq (rR [9] [qM 10 0,qM 11 1,oQ 12 (.bin .gtr (.t 10) (.t 11)),qM 9 12]) (.cond (.t 9) (.seq (rR [4] [oQ 4 (.mov (.c (.int .i64 1)))]) .ret) .skip))))) (.seq (rR [4] [oQ 4 (.mov (.c (.int .i64 0)))]) .ret)))
theorem jJ(hn:vals.length<=13)(h:SP Tryz.prog true vals bs jt [.slot 4] Q):AM.Sem Tryz.prog 119 vals bs Q:=
 oZ (keeps:=[(0,[0,1]),(1,[0,1,5]),(3,[9]),(4,[4]),(2,[4]),(5,[4])]) (solo:=[]) Tryz.func119 rfl hn h
def kj:RC:=
 (.seq (rR [0,1] [oQ 4 (.mov (.c (.int .i64 0)))]) (.seq (.block 0 (.seq (rR [0,1,5] [qM 6 0,qM 7 1,oQ 8 (.bin .lss (.t 6) (.t 7)),qM 5 8]) (.cond (.t 5) (.seq (rR [4] [oQ 4 (.mov (.c (.int .i64 (-1))))]) .ret) (.seq (rR [9] [qM 10 0,qM 11 1,oQ 12 (.bin .gtr (.t 10) (.t 11)),qM 9 12]) (.cond (.t 9) (.seq (rR [4] [oQ 4 (.mov (.c (.int .i64 1)))]) .ret) .skip))))) (.seq (rR [4] [oQ 4 (.mov (.c (.int .i64 0)))]) .ret)))
theorem kG(hn:vals.length<=13)(h:SP Tryz.prog true vals bs kj [.slot 4] Q):AM.Sem Tryz.prog 117 vals bs Q:=
 oZ (keeps:=[(0,[0,1]),(1,[0,1,5]),(3,[9]),(4,[4]),(2,[4]),(5,[4])]) (solo:=[]) Tryz.func117 rfl hn h
def ju:RC:=
 (.seq (rR [0,1] [oQ 4 (.mov (.c (.int .i64 0)))]) (.seq (.seq (rR [0,1,5] [oQ 5 (.mov (.c (.int .i64 0)))]) (.block 0 (.loop (.seq (.seq (rR [0,1,5,16] [qM 7 5,qM 8 0,oQ 9 (.len false (.t 8)),oQ 10 (.bin .lss (.t 7) (.t 9)),qM 11 10,oG 12 11 true (.mov (.t 5)),oG 13 11 true (.mov (.t 1)),oG 14 11 true (.len false (.t 13)),oG 15 11 true (.bin .lss (.t 12) (.t 14)),oQ 16 (.pick (.t 11) (.t 15) (.c (.bool false)))]) (.cond (.t 16) .skip (.exit 0))) (.seq (.block 1 (.seq (.reg true [0,1,5,6] [qM 19 0,qM 20 5,qI 21 4 19 20,qA 22 4 21,qM 23 1,qM 24 5,qI 25 4 23 24,qA 26 4 25,oQ 27 (cF 85 [(.t 22),(.t 26)]),oQ 6 (.take 27)]) (.seq (rR [0,1,5,6,29] [qM 28 6,oQ 29 (.bin .neq (.t 28) (.c (.int .i64 0)))]) (.cond (.t 29) (.seq (rR [4] [qM 30 6,qM 4 30]) .ret) .skip)))) (rR [0,1,5] [qM 17 5,oQ 18 (.bin .add (.t 17) (.c (.int .i64 1))),qM 5 18])))))) (.seq
 (rR [4] [qM 31 0,oQ 32 (.len false (.t 31)),qM 33 1,oQ 34 (.len false (.t 33)),oQ 35 (cF 117 [(.t 32),(.t 34)]),qM 4 35]) .ret)))
theorem jK(hn:vals.length<=36)(h:SP Tryz.prog true vals bs ju [.slot 4] Q):AM.Sem Tryz.prog 120 vals bs Q:=
 oZ (keeps:=[(0,[0,1]),(1,[0,1,5]),(2,[0,1,5,16]),(4,[0,1,5,6]),(5,[0,1,5,6,29]),(6,[4]),(3,[0,1,5]),(7,[4])]) (solo:=[]) Tryz.func120 rfl hn h
def Mt:RC:=
 (.seq (rR [0,1,2] [oQ 6 (.mov (.c (.int .i64 0)))]) (.seq (.seq (rR [0,1,2,15] [qM 8 2,oQ 9 (.bin .eql (.t 8) (.c (.int .i64 0))),qM 10 9,oG 11 10 false (.mov (.t 0)),oG 12 10 false (.len false (.t 11)),oG 13 10 false (.mov (.t 1)),oG 14 10 false (.bin .gtr (.t 12) (.t 13)),oQ 15 (.pick (.t 10) (.c (.bool true)) (.t 14))]) (.cond (.t 15) (.seq (rR [6] [oQ 6 (.mov (.c (.int .i64 (-1))))]) .ret) .skip)) (.seq (.seq (rR [0,1,2,7] [oQ 7 (.mov (.c (.int .i64 0)))]) (.block 0 (.loop (.seq (.seq (rR [0,1,2,7,23] [qM 16 7,qM 17 0,oQ 18 (.len false (.t 17)),oQ 19 (.bin .lss (.t 16) (.t 18)),qM 20 19,oG 21 20 true (.mov (.t 1)),oG 22 20 true (.bin .geq (.t 21) (.c (.int .i64 0))),oQ 23 (.pick (.t 20) (.t 22) (.c (.bool false)))]) (.cond (.t 23) .skip (.exit 0))) (.seq (.block 1 (.reg true [0,1,2,7] [qM 26 0,qM 27 7,qI 28 4 26 27,qF 29 3 28,qL 30 29,qM 31 1,oQ 32 (.bin .sub (.t 31) (.c (.int .i64 1))),qM 33 0,qM 34 7,qI 35 4 33 34,qF 36 2 35,qL 37 36,oQ 38 (.len true (.t 37)),oQ 39 (.bin .quo (.t 38) (.c (.int .i64 8))),oQ 40 (.bin .sub (.t 32) (.t 39)),qM 41 2,oQ 42 (.bin .sub (.t 41) (.c (.int .i64 1))),oQ 43 (cF 52 [(.t 30),(.t 40),(.t 42)]),oQ 1 (.take 43)]))
 (rR [0,1,2,7] [qM 24 7,oQ 25 (.bin .add (.t 24) (.c (.int .i64 1))),qM 7 25])))))) (.seq (rR [6] [qM 44 1,qM 6 44]) .ret))))
theorem Mw(hn:vals.length<=45)(h:SP Tryz.prog true vals bs Mt [.slot 6] Q):AM.Sem Tryz.prog 52 vals bs Q:=
 oZ (keeps:=[(0,[0,1,2]),(1,[0,1,2,15]),(2,[6]),(3,[0,1,2,7]),(4,[0,1,2,7,23]),(6,[0,1,2,7]),(5,[0,1,2,7]),(7,[6])]) (solo:=[]) Tryz.func52 rfl hn h
def lC:RC:=
 (.seq (rR [0,1] [oQ 4 (.mov (.c (.bool false)))]) (.seq (.seq (rR [0,1,5] [oQ 5 (.mov (.c (.int .i64 0)))]) (.block 0 (.loop (.seq (.seq (rR [0,1,5,9] [qM 6 5,qM 7 0,oQ 8 (.len false (.t 7)),oQ 9 (.bin .lss (.t 6) (.t 8))]) (.cond (.t 9) .skip (.exit 0))) (.seq (.block 1 (.seq (rR [0,1,5,17] [qM 12 0,qM 13 5,qI 14 1 12 13,qL 15 14,qM 16 1,oQ 17 (.bin .eql (.t 15) (.t 16))]) (.cond (.t 17) (.seq (rR [4] [oQ 4 (.mov (.c (.bool true)))]) .ret) .skip))) (rR [0,1,5] [qM 10 5,oQ 11 (.bin .add (.t 10) (.c (.int .i64 1))),qM 5 11])))))) (.seq (rR [4] [oQ 4 (.mov (.c (.bool false)))]) .ret)))
theorem lL(hn:vals.length<=18)(h:SP Tryz.prog true vals bs lC [.slot 4] Q):AM.Sem Tryz.prog 168 vals bs Q:=
 oZ (keeps:=[(0,[0,1]),(1,[0,1,5]),(2,[0,1,5,9]),(4,[0,1,5,17]),(5,[4]),(3,[0,1,5]),(6,[4])]) (solo:=[]) Tryz.func168 rfl hn h
def P4:RC:=
 (.seq (rR [2,3] [oQ 2 (.box (.t 0)),oQ 3 (.box (.t 1)),oQ 4 (.mov (.c (.bool false)))]) (.seq (rR [4] [qF 5 0 2,qL 6 5,qF 7 0 3,qL 8 7,oQ 9 (.bin .eql (.t 6) (.t 8)),qM 10 9,oG 11 10 true (.aT 1 (.t 2)),oG 12 10 true (.load false 1 (.t 11)),oG 13 10 true (.aT 1 (.t 3)),oG 14 10 true (.load false 1 (.t 13)),oG 15 10 true (.bin .eql (.t 12) (.t 14)),oQ 16 (.pick (.t 10) (.t 15) (.c (.bool false))),qM 17 16,oG 18 17 true (.aT 2 (.t 2)),oG 19 17 true (.load false 1 (.t 18)),oG 20 17 true (.len false (.t 19)),oG 21 17 true (.aT 2 (.t 3)),oG 22 17 true (.load false 1 (.t 21)),oG 23 17 true (.len false (.t 22)),oG 24 17 true (.bin .eql (.t 20) (.t 23)),oQ 25 (.pick (.t 17) (.t 24) (.c (.bool false))),qM 26 25,oG 27 26 true (.aT 2 (.t 2)),oG 28 26 true (.load false 1 (.t 27)),oG 29 26 true (.aT 2 (.t 3)),oG 30 26 true (.load false 1 (.t 29)),oG 31 26 true (cF 104 [(.t 28),(.t 30)]),oQ 32 (.pick (.t 26) (.t 31) (.c (.bool false))),qM 4 32])
 .ret))
theorem P5(hn:vals.length<=33)(h:SP Tryz.prog true vals bs P4 [.slot 4] Q):AM.Sem Tryz.prog 70 vals bs Q:=
 oZ (keeps:=[(0,[2,3]),(1,[4])]) (solo:=[]) Tryz.func70 rfl hn h
def P2:RC:=
 (.seq (rR [0,1] [oQ 4 (.mov (.c (.bool false)))]) (.seq (rR [4] [qM 5 0,qM 6 1,oQ 7 (cF 120 [(.t 5),(.t 6)]),oQ 8 (.bin .eql (.t 7) (.c (.int .i64 0))),qM 4 8]) .ret))
theorem P3(hn:vals.length<=9)(h:SP Tryz.prog true vals bs P2 [.slot 4] Q):AM.Sem Tryz.prog 104 vals bs Q:=
 oZ (keeps:=[(0,[0,1]),(1,[4])]) (solo:=[]) Tryz.func104 rfl hn h
theorem sO(hn:vals.length<=17)(h:SP Tryz.prog false vals bs tC [] Q):AM.Sem Tryz.prog 131 vals bs Q:=
 oZ (keeps:=[(0,[0,1,5,6]),(1,[0,1,5,6,7]),(2,[0,1,3,5,6]),(3,[0,1,5,6,15]),(4,[0,1,5,6])]) (solo:=[]) Tryz.func131 rfl hn h
theorem wz(hn:vals.length<=26)(h:SP Tryz.prog false vals bs yz [.slot 4] Q):AM.Sem Tryz.prog 132 vals bs Q:=
 oZ (keeps:=[(0,[1,2]),(1,[1,2,9]),(2,[4]),(3,[1,15,16,17]),(4,[1,15,16,17,18]),(5,[1,6,15,16,17]),(6,[1,15,16,17,24]),(7,[4]),(8,[1,15,16,17]),(9,[4])]) (solo:=[]) Tryz.func132 rfl hn h
theorem dz(hn:vals.length<=37)(h:SP Tryz.prog false vals bs kg [.slot 4] Q):AM.Sem Tryz.prog 134 vals bs Q:=
 oZ (keeps:=[(0,[0,3]),(1,[0,3,16]),(2,[0,3]),(3,[0,5]),(4,[0,5,6]),(5,[0,5,6,27]),(7,[0,5,6]),(6,[0,5,6]),(8,[4]),(1000000,[21])]) (solo:=[]) Tryz.func134 rfl hn h
theorem jT(hn:vals.length<=5)(h:SP Tryz.prog false vals bs ku [.slot 2] Q):AM.Sem Tryz.prog 100 vals bs Q:=
 oZ (keeps:=[(0,[1]),(1,[2])]) (solo:=[]) Tryz.func100 rfl hn h
end Go.CK
namespace Go.CK
open Go.AM Go.Proofs
theorem IN{x:Int}:Fun Tryz.prog 157 [.int .i64 x] (.bool false):=by
 refine Fun.of (qW (by simp) ?_) rfl rfl
 conv=>whnf
 repeat' refine af.nrm ?_<;>conv=>whnf
 simp
theorem IM{x:ByteArray}:Fun Tryz.prog 158 [.str x] (.bool false):=by
 refine Fun.of (ov (by simp) ?_) rfl rfl
 conv=>whnf
 repeat' refine af.nrm ?_<;>conv=>whnf
 simp
theorem D8{x y:Int}:Fun Tryz.prog 121 [.int .i64 x,.int .i64 y] (.int .i64 (e8 x y)):=by
 refine Fun.of (o0 (by simp) ?_) rfl rfl
 conv=>whnf
 repeat' (first|refine gF (ab.fn (IN) ?_)|(refine gC ?_;first|refine cN ?_|refine aq.lt (λhc=>?_) (λhc=>?_))|refine af.nrm ?_)<;>conv=>whnf
 .rw [e8,if_pos (by omega)]
 .rw [e8,if_neg (by omega),if_pos (by omega)]
 .rw [e8,if_neg (by omega),if_neg (by omega)]
theorem D7{x y:ByteArray}:Fun Tryz.prog 123 [.str x,.str y] (.int .i64 (qq x y)):=by
 refine Fun.of (my (by simp) ?_) rfl rfl
 conv=>whnf
 repeat' (first|refine gF (ab.fn (IM) ?_)|(refine gC ?_;first|refine cN ?_|refine .not ?_|refine cNa ?_|with_reducible refine aq.or ?_|refine aq.dec (λhc=>?_) (λhc=>?_)|refine aq.any (λhc=>?_) (λhc=>?_))|refine af.nrm ?_)<;>conv=>whnf
 .simp [qq,fz, *]
 .simp [qq,fz, *]
 .simp [qq,fz, *]
theorem oV{x y:Int}:Fun Tryz.prog 117 [.int .i64 x,.int .i64 y] (.int .i64 (e8 x y)):=by
 refine Fun.of (kG (by simp) ?_) rfl rfl
 conv=>whnf
 repeat' (first|(refine gC ?_;refine aq.lt (λhc=>?_) (λhc=>?_))|refine af.nrm ?_)<;>conv=>whnf
 .rw [e8,if_pos (by omega)]
 .rw [e8,if_neg (by omega),if_pos (by omega)]
 .rw [e8,if_neg (by omega),if_neg (by omega)]
theorem zX{x y:ByteArray}:Fun Tryz.prog 119 [.str x,.str y] (.int .i64 (qq x y)):=by
 refine Fun.of (jJ (by simp) ?_) rfl rfl
 conv=>whnf
 repeat' (first|(refine gC ?_;first|refine .not ?_|refine cNa ?_|with_reducible refine aq.or ?_|refine aq.dec (λhc=>?_) (λhc=>?_)|refine aq.any (λhc=>?_) (λhc=>?_))|refine af.nrm ?_)<;>conv=>whnf
 .simp [qq,fz, *]
 .simp [qq,fz, *]
 .simp [qq,fz, *]
def orL:List Int->Int
 |[]=>0
 |x::l=>orI x (orL l)
theorem Ad{l:List Int}{j:Nat}{x:Int}(h:l[j]? =some x):orL (l.drop j)=orI x (orL (l.drop (j+1))):=by
 obtain⟨h1,rfl⟩:=ZB.1 h;rw[ZH h1,orL]
theorem J9{l:List Int}:Fun Tryz.prog 124 [slA c7 l] (.int .i64 (orL l)):=by
 refine Fun.assume rfl λhg0=>?_;have hg:=(bH (hg0 (slA c7 l) (by simp))).1
 refine Fun.of (wq (by simp) ?_) rfl rfl
 conv=>whnf
 repeat' refine gL (.map ?_)<;>conv=>whnf
 refine aw.count (fb:=true) (l.length) (λst_ j=>st_.zG [(8,.int .i64 j)]) (λj=>orL (l.drop j)=orL l) ?_ ?_ (λj hj hij=>?_) (λhij=>?_)
 .rfl
 .exact au
 .conv=>whnf
  repeat' (first|(refine gC ?_;first|refine .not ?_|refine gD (cI ?_)|refine aq.dec (λhc=>?_) (λhc=>?_))|refine gW (wI ?_)|(refine gI ?_;(refine gM ?_;refine iH λx hx=>?_))|refine af.nrm ?_)<;>conv=>whnf
  .rw [Ad (by assumption)] at hij
   refine⟨?_,?_⟩
   .rw [<-hij];simp[orI, *]
   .exact au
  .rw [Ad (by assumption),GB (by assumption)] at hij
   rw[hij]
 .conv=>whnf
  repeat' (first|refine gC (gD (cJ ?_))|refine af.nrm ?_)<;>conv=>whnf
  rw[Zj] at hij;rw[<-hij];rfl
theorem Ka{a b c:Int}:Fun Tryz.prog 124 [.sl .no [.int .i64 a,.int .i64 b,.int .i64 c]] (.int .i64 (orI a (orI b c))):=by
 have:=J9 (l:=[a,b,c]);have e:orL [a,b,c]=orI a (orI b c):=by simp only[orL,orI];repeat' split<;>first|rfl|omega
 rwa [e] at this
theorem Dw{k:Int}:Fun Tryz.prog 122 [.int .i64 k] (.int .i64 (iP k)):=by
 refine Fun.of (yI (by simp) ?_) rfl rfl
 conv=>whnf
 repeat' (first|(refine gC ?_;refine aq.dec (λhc=>?_) (λhc=>?_))|refine af.nrm ?_)<;>conv=>whnf
 all_goals simp[iP, *]
theorem Bk{t:Tm}:Fun Tryz.prog 118 [t.avw] (.int .i64 (iP t.kind)):=by
 refine Fun.of (jL (by simp) ?_) rfl rfl
 conv=>whnf
 repeat' (first|(refine gC ?_;refine aq.dec (λhc=>?_) (λhc=>?_))|refine af.nrm ?_)<;>conv=>whnf
 all_goals simp[iP, *]
theorem IX{l m:List Tm}(hl:l.length=m.length)(ih:∀t∈l,∀b:Tm,Fun Tryz.prog 86 [t.avw,b.avw] (.int .i64 (t.cmp b))):Fun Tryz.prog 103 [slA Tm.av l,slA Tm.av m] (.int .i64 (Tm.nD l m)):=by
 refine Fun.assume rfl λhg0=>?_;have hg:=(bH (hg0 (slA Tm.av l) (by simp))).1
 refine Fun.of (yK (by simp) ?_) rfl rfl
 conv=>whnf
 repeat' refine gL (.map ?_)<;>conv=>whnf
 refine aw.count (fb:=true) (l.length) (λst_ j=>st_.zG [(9,.int .i64 j)]) (λj=>Tm.nD (l.drop j) (m.drop j)=Tm.nD l m) ?_ ?_ (λj hj hij=>?_) (λhij=>?_)
 .rfl
 .exact au
 .conv=>whnf
  repeat' (first|(refine gG ?_;refine aM.fn (ih _ (ZE (by assumption)) _) ?_)|(refine gC ?_;first|refine .not ?_|refine gD (cI ?_)|refine aq.dec (λhc=>?_) (λhc=>?_))|refine gW (wI ?_)|(refine gI ?_;(refine gT ?_;refine iC λx hx=>?_))|refine af.nrm ?_)<;>conv=>whnf
  .rw [oi (by assumption) (by assumption)] at hij
   refine⟨?_,?_⟩
   .rw [<-hij];simp[orI, *]
   .exact au
  .rw [oi (by assumption) (by assumption),GB (by assumption)] at hij
   rw[hij]
 .conv=>whnf
  repeat' (first|refine gC (gD (cJ ?_))|refine af.nrm ?_)<;>conv=>whnf
  rw[vc (ZG _) (by omega) (.inl rfl),hl,xW] at hij
  rw[<-hij]
theorem G7{l m:List Tm}(ih:∀t∈l,∀b:Tm,Fun Tryz.prog 85 [t.avw,b.avw] (.int .i64 (t.cmp b))):Fun Tryz.prog 120 [slA Tm.av l,slA Tm.av m] (.int .i64 (Tm.nD l m)):=by
 refine Fun.assume rfl λhg0=>?_;have hg:=(bH (hg0 (slA Tm.av l) (by simp))).1
 refine Fun.of (jK (by simp) ?_) rfl rfl
 conv=>whnf
 skip;refine aw.by (fb:=true) (λst_ j=>st_.zG [(5,.int .i64 (j:Nat))]) (λj=>j<=l.length/\j<=m.length/\Tm.nD (l.drop j) (m.drop j)=Tm.nD l m) (λj=>l.length-j) 0 ⟨by omega,by omega,rfl⟩ ?_ ?_
 .exact au
 .rintro j ⟨h1,h2,hij⟩
  conv=>whnf
  repeat' (first|refine gF (ab.fn (oV) ?_)|(refine gG ?_;refine aM.fn (ih _ (ZE (by assumption)) _) ?_)|(refine gC ?_;first|refine cN ?_|refine .not ?_|(refine gD ?_;first|refine cI ?_|refine cJ ?_)|refine aq.lt (λhc=>?_) (λhc=>?_)|refine aq.dec (λhc=>?_) (λhc=>?_))|refine gW (wI ?_)|refine gL (.map ?_)|(refine gI ?_;(refine gT ?_;refine iC λx hx=>?_))|refine af.nrm ?_)<;>conv=>whnf
  .rw [oi (by assumption) (by assumption)] at hij
   refine⟨j+1,⟨⟨by omega,by omega,?_⟩,by omega⟩,?_⟩
   .rw [<-hij];simp[orI, *]
   .exact au
  .rw [oi (by assumption) (by assumption),GB (by assumption)] at hij
   rw[hij]
  .rw [vc h1 h2 (by omega)] at hij
   rw[hij]
  .rw [vc h1 h2 (by omega)] at hij
   rw[hij]
theorem Df(a:Tm):∀b:Tm,Fun Tryz.prog 86 [a.avw,b.avw] (.int .i64 (a.cmp b)):=by
 induction a using Tm.bD with
 |h k n s l ih=>
 intro b;generalize ha:Tm.mk k n s l=a;have ih:∀t∈a.args,∀b:Tm,Fun Tryz.prog 86 [t.avw,b.avw] (.int .i64 (t.cmp b)):=by subst ha;exact ih
 clear ha;rw[Tm.cmp_eq];refine Fun.of (sK (by simp) ?_) rfl rfl
 conv=>whnf
 repeat' (first|(refine gF ?_;first|refine ab.fn (Dw) ?_|refine ab.fn (D8) ?_|refine ab.fn (D7) ?_|refine ab.fn (IX (by have:=KB.1 (show e8 (a.args.length:Int) b.args.length=0 by assumption);omega) ih) ?_)|(refine gG ?_;first|refine aM.fn (Dw) ?_|refine aM.fn (D8) ?_|refine aM.fn (D7) ?_|refine aM.fn (Ka) ?_)|(refine gC ?_;first|refine .not ?_|refine gD (cI ?_)|refine aq.dec (λhc=>?_) (λhc=>?_))|refine gL (.map ?_)|refine af.nrm ?_)<;>conv=>whnf
 all_goals (clear ih;simp_all[orI])
theorem vZ(a:Tm):∀b:Tm,Fun Tryz.prog 85 [a.avw,b.avw] (.int .i64 (a.cmp b)):=by
 induction a using Tm.bD with
 |h k n s l ih=>
 intro b;generalize ha:Tm.mk k n s l=a;have ih:∀t∈a.args,∀b:Tm,Fun Tryz.prog 85 [t.avw,b.avw] (.int .i64 (t.cmp b)):=by subst ha;exact ih
 clear ha;rw[Tm.cmp_eq];refine Fun.of (hZ (by simp) ?_) rfl rfl
 conv=>whnf
 repeat' (first|(refine gF ?_;first|refine ab.fn (Bk) ?_|refine ab.fn (oV) ?_|refine ab.fn (zX) ?_|refine ab.fn (G7 ih) ?_)|(refine gG ?_;first|refine aM.fn (Bk) ?_|refine aM.fn (oV) ?_)|(refine gC ?_;first|refine .not ?_|(refine gD ?_;first|refine cI ?_|refine cJ ?_)|refine aq.dec (λhc=>?_) (λhc=>?_))|refine gL (.map ?_)|refine af.nrm ?_)<;>conv=>whnf
 all_goals (clear ih;simp_all[orI])
theorem ON{l m:List Tm}(hl:l.length=m.length):Fun Tryz.prog 103 [slA Tm.av l,slA Tm.av m] (.int .i64 (Tm.nD l m)):=IX hl λt _ b=>Df t b
theorem Qo{l m:List Tm}:Fun Tryz.prog 120 [slA Tm.av l,slA Tm.av m] (.int .i64 (Tm.nD l m)):=G7 λt _ b=>vZ t b
theorem Ox(a:Tm):∀left deep:Int,-2305843009213693952<=left->left<=4294967296->0<=deep->deep<=64->Fun Tryz.prog 52 [slA Tm.av a.args,.int .i64 left,.int .i64 deep] (.int .i64 (LR a.args left deep)):=by
 induction a using Tm.bD with
 |h k n s l ih=>
 intro left deep b1 b2 b3 b4;rw[show (Tm.mk k n s l).args=l from rfl];refine Fun.assume rfl λhg0=>?_;have hgs:=bH (hg0 (slA Tm.av l) (by simp))
 have hg:=hgs.1;refine Fun.of (Mw (by simp) ?_) rfl rfl
 conv=>whnf
 repeat' (first|(refine gC ?_;first|refine cY ?_|(refine gD ?_;first|refine cI ?_|refine cJ ?_)|refine aq.lt (λhc=>?_) (λhc=>?_)|refine aq.dec (λhc=>?_) (λhc=>?_))|refine gL (.map ?_)|refine af.nrm ?_)<;>conv=>whnf
 .rw [LR,if_pos (.inl (by assumption))]
 .rw [LR,if_pos (.inr (by assumption))]
 .have e0:LR l left deep=Tm.Mh l left deep:=by rw[LR,if_neg (by omega)]
  rw[e0];refine aw.by (fb:=true) (λs (q:Nat×Int)=>s.zG [(1,.int .i64 q.2),(7,.int .i64 q.1)]) (λq=>q.1<=l.length/\(-1<=q.2/\q.2<=4294967296)/\Tm.Mh (l.drop q.1) q.2 deep=Tm.Mh l left deep) (λq=>l.length-q.1) (0,left) ⟨ZJ _,by simp only;omega,rfl⟩ ?_ ?_
  .exact au
  .rintro ⟨j,r⟩ ⟨hj,hr,he⟩;dsimp only at hj hr he|-
   by_cases hlt:j<l.length
   .obtain ⟨x,hx⟩:∃x,l[j]? =some x:=⟨_,ZA hlt⟩;have hxs:=(oe (N1 (hgs.2 x (ZE hx)))).1
    by_cases hr0:0<=r
    .rw [On hx hr0] at he;have hw:=OT x r deep hr.1;rw[Tm.N6] at hw he;have h8:=NG x.name.size
     conv=>whnf
     repeat' (first|(refine gG ?_;refine aM.fn (ih _ (ZE (by assumption)) _ _ (by omega) (by omega) (by omega) (by omega)) ?_)|refine gC (gD (cI ?_))|refine gW (wI ?_)|refine gL (.map ?_)|refine gN (nS ?_)|refine gI (gT (iA ?_)))<;>conv=>whnf
     refine⟨(j+1,LR x.args (r-1-(x.name.size:Int).tdiv 8) (deep-1)),⟨⟨hlt,?_,he⟩,by simp only;omega⟩,?_⟩
     .simp only;omega
     .exact au
    .rw [Nj _ (by omega)] at he
     conv=>whnf
     repeat' (first|(refine gC ?_;(refine gD ?_;first|refine cI ?_|refine cJ ?_))|refine gL (.map ?_)|refine af.nrm ?_)<;>conv=>whnf
     rw[he]
   .have hje:j=l.length:=by omega
    subst hje;rw[Zj,Tm.Mh] at he
    conv=>whnf
    repeat' (first|(refine gC ?_;first|refine cN ?_|refine gD (cJ ?_))|refine gL (.map ?_)|refine af.nrm ?_)<;>conv=>whnf
    rw[he]
theorem Ow{l:List Tm}{left deep:Int}(h1:-2305843009213693952<=left)(h2:left<=4294967296)(h3:0<=deep)(h4:deep<=64):Fun Tryz.prog 52 [slA Tm.av l,.int .i64 left,.int .i64 deep] (.int .i64 (LR l left deep)):=Ox (.mk 0 0 .empty l) left deep h1 h2 h3 h4
end Go.CK
