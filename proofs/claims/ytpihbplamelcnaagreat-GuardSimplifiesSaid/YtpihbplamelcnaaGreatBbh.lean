/-
  Texts of this aZ joined (wip/gen/bundle.py),those declarations only that are needed:UrK RcAri RcBnd BdA BdB SbA SbB BnA BnB BnC BnD ArithM EvalM ArmA. By an AI agent.
-/
import Derived.Test.YtpihbplamelcnaaGreatBbg
set_option linter.unusedSimpArgs false
set_option linter.unusedVariables false
set_option maxRecDepth 100000
namespace Go.CK
open Go.AM Go.Proofs
theorem PC{a b:List Tm}{out:List Bnd}{e:Int}(h:Hk a b=some (out,e))(hN:Tm.aj a+Tm.aj b<=300000000):Fun Tryz.prog 122 [.sl .no (a.map Tm.av),.sl .no (b.map Tm.av)] (.tup [.sl .no (out.map Bnd.av),.int .i64 e]):=by
 have hla:=bO a;have hlb:=bO b;unfold Hk at h;refine Fun.of (mP (by simp) ?_) rfl rfl
 conv=>whnf
 skip;refine aD.by (fb:=true) (λ_ (j:Nat)=>⟨[(0,.sl .no (a.map Tm.av)),(1,.sl .no (b.map Tm.av)),(6,.int .i64 (j:Int))],[],0⟩) (λj=>j<=a.length/\(a.drop j).all Tm.right=a.all Tm.right) (λj=>a.length-j) 0 ⟨zJ _,rfl⟩ ?_ ?_
 .exact aH
 .rintro j ⟨q1,q2⟩
  by_cases hj:j<a.length
  .obtain ⟨x,hx⟩:∃x,a[j]? =some x:=⟨_,zA hj⟩;have hxn:=bU a hx;have hs:=sX x (by omega)
   rw[zH hj,(zB.1 hx).2,Zr] at q2
   cases hr:x.right with
   |true=>
    rw[hr] at hs;rw[hr,za] at q2
    conv=>whnf
    repeat' (first|refine gF (aa.fn (hs) ?_)|(refine gC ?_;first|refine cY ?_|refine .not ?_|refine gD (cI ?_))|refine gW (wI ?_)|refine gL (.map ?_)|refine gI (gT (iA ?_)))<;>conv=>whnf
    refine⟨j+1,⟨⟨hj,q2⟩,by omega⟩,?_⟩
    exact aH
   |false=>
    rw[hr] at hs;rw[hr,zw] at q2;rw[<-q2,zw,if_neg Za] at h;cases h
    conv=>whnf
    repeat' (first|refine gF (aa.fn (hs) ?_)|(refine gC ?_;first|refine cN ?_|refine .not ?_|refine gD (cI ?_))|refine gL (.map ?_)|refine gI (gT (iA ?_))|refine ae.nrm ?_)<;>conv=>whnf
    all_goals rfl
  .obtain rfl:j=a.length:=by omega
   rw[zj,List.all_nil] at q2;rw[<-q2,za] at h
   conv=>whnf
   repeat' (first|refine gC (gD (cJ ?_))|refine gL (.map ?_))<;>conv=>whnf
   refine aD.by (fb:=true) (λ_ (j:Nat)=>⟨[(0,.sl .no (a.map Tm.av)),(1,.sl .no (b.map Tm.av)),(7,.int .i64 (j:Int))],[],0⟩) (λj=>j<=b.length/\(b.drop j).all Tm.right=b.all Tm.right) (λj=>b.length-j) 0 ⟨zJ _,rfl⟩ ?_ ?_
   .exact aH
   .rintro j ⟨q3,q4⟩
    by_cases hj:j<b.length
    .obtain ⟨x,hx⟩:∃x,b[j]? =some x:=⟨_,zA hj⟩;have hxn:=bU b hx;have hs:=sX x (by omega)
     rw[zH hj,(zB.1 hx).2,Zr] at q4
     cases hr:x.right with
     |true=>
      rw[hr] at hs;rw[hr,za] at q4
      conv=>whnf
      repeat' (first|refine gF (aa.fn (hs) ?_)|(refine gC ?_;first|refine cY ?_|refine .not ?_|refine gD (cI ?_))|refine gW (wI ?_)|refine gL (.map ?_)|refine gI (gT (iA ?_)))<;>conv=>whnf
      refine⟨j+1,⟨⟨hj,q4⟩,by omega⟩,?_⟩
      exact aH
     |false=>
      rw[hr] at hs;rw[hr,zw] at q4;rw[<-q4,if_neg Za] at h;cases h
      conv=>whnf
      repeat' (first|refine gF (aa.fn (hs) ?_)|(refine gC ?_;first|refine cN ?_|refine .not ?_|refine gD (cI ?_))|refine gL (.map ?_)|refine gI (gT (iA ?_))|refine ae.nrm ?_)<;>conv=>whnf
      all_goals rfl
    .obtain rfl:j=b.length:=by omega
     rw[zj,List.all_nil] at q4;rw[<-q4,if_pos rfl] at h
     by_cases hl:a.length=b.length
     .rw [if_pos hl] at h;have hl2:(a.length:Int)=(b.length:Int):=by omega
      have hsv:=Mq (f:=fR) (by unfold F4;exact h) hl (λx hx=>dw (zS.1 q2.symm x hx)) (λx hx=>dw (zS.1 q4.symm x hx)) hN (by decide)
      conv=>whnf
      repeat' (first|refine gF (aa.fn (hsv) ?_)|(refine gC ?_;first|refine .not ?_|(refine gD ?_;first|refine cI ?_|refine cJ ?_))|refine gL (.map ?_)|refine ae.nrm ?_)<;>conv=>whnf
      all_goals rfl
     .rw [if_neg hl] at h;cases h;have hl2:¬(a.length:Int)=(b.length:Int):=by omega
      conv=>whnf
      repeat' (first|(refine gC ?_;first|refine .not ?_|refine gD (cJ ?_))|refine gL (.map ?_)|refine ae.nrm ?_)<;>conv=>whnf
      all_goals rfl
theorem Np{a b:Tm}{out:List Bnd}{e:Int}(h:Hk [a] [b]=some (out,e))(hN:a.nodes+b.nodes<=300000000):Fun Tryz.prog 95 [a.avw,b.avw] (.tup [.sl .no (out.map Bnd.av),.int .i64 e]):=by
 have ha:=PC h (by simp only[Tm.aj];omega)
 simp only[zP,Zf,Tm.xL] at ha;refine Fun.of (kV (by simp) ?_) rfl rfl
 conv=>whnf
 repeat' (first|refine gF (aa.fn (ha) ?_)|refine ae.nrm ?_)<;>conv=>whnf
theorem FU{a b:Tm}{out:List Bnd}{e:Int}(h:Hk [a] [b]=some (out,e))(hN:a.nodes+b.nodes<=300000000):Fun Tryz.prog 68 [a.avw,b.avw] (.bool (eA e)):=by
 have ha:=Np h hN;refine Fun.of (ie (by simp) ?_) rfl rfl
 conv=>whnf
 repeat' (first|refine gF (aa.fn (ha) ?_)|(refine gC ?_;first|(refine gD ?_;first|refine cI ?_|refine cJ ?_)|refine al.dec (λhc=>?_) (λhc=>?_))|refine ae.nrm ?_)<;>conv=>whnf
 all_goals (simp[eA, *])
theorem LM{a b:List Tm}(hN:Tm.aj a+Tm.aj b<=300000000):∃out e,Df fN fF a b=some (out,e)/\Hk a b=some (out,e):=by
 obtain⟨out,e,h1,h2,_⟩:=FI hN;obtain⟨out',e',h3,h4⟩:=LW hN;refine⟨out,e,h1,?_⟩
 have:out=out'/\e=e':=by
  split at h2
  .rename_i hr;rw[if_pos hr] at h4;split at h2
   .rename_i hl;rw[if_pos hl] at h4;exact h2.one h4
   .rename_i hl;rw[if_neg hl] at h4;exact⟨h2.1.trans h4.1.symm,h2.2.trans h4.2.symm⟩
  .rename_i hr;rw[if_neg hr] at h4;exact⟨h2.1.trans h4.1.symm,h2.2.trans h4.2.symm⟩
 rw[this.1,this.2];exact h3
end Go.CK
namespace Go.CK
open Go.AM Go.Proofs
variable{vals:List AV}{bs:List Box}{Q:AV->List Box->Prop}
def yx:RC:=
 (.seq (rR [1] [oQ 1 (.box 0),oQ 2 (.mov (.c (.int .i64 0))),oQ 3 (.mov (.c (.int .i64 0)))]) (.seq (.block 0 (.seq (rR [1,8] [qF 9 0 1,qL 10 9,oQ 11 (.bin .eql 10 (.c (.int .i64 1))),qM 8 11]) (.cond 8 (.seq (rR [2,3] [oQ 2 (.mov (.c (.int .i64 0))),oQ 3 (.mov (.c (.int .i64 17)))]) .ret) (.seq (rR [1,12] [qF 13 0 1,qL 14 13,oQ 15 (.bin .eql 14 (.c (.int .i64 0))),qM 16 15,oG 17 16 true (.aF 1 1),oG 18 16 true (.load false 1 17),oG 19 16 true (.aM 1 [18]),oG 20 16 true (cF 138 [19]),oQ 21 (.pick 16 20 (.c (.bool false))),qM 12 21]) (.cond 12 (.seq (rR [2,3] [qF 22 1 1,qL 23 22,qM 2 23,oQ 3 (.mov (.c (.int .i64 0)))]) .ret) (.seq (rR [1,24] [qF 25 0 1,qL 26 25,oQ 27 (.bin .eql 26 (.c (.int .i64 0))),qM 24 27]) (.cond 24 (.seq (rR [2,3] [oQ 2 (.mov (.c (.int .i64 0))),oQ 3 (.mov (.c (.int .i64 5)))]) .ret) (.seq (rR [1,28] [qA 29 4 1,oQ 30 (cF 139 [29]),oQ 31 (.un .not 30),qM 28 31])
 (.cond 28 (.seq (rR [2,3] [oQ 2 (.mov (.c (.int .i64 0))),oQ 3 (.mov (.c (.int .i64 11)))]) .ret) .skip))))))))) (.seq (rR [1,4] [oQ 4 (.box (.c (.agg [(.int .i64 0),(.int .i64 0)])))]) (.seq (.seq (rR [1,4,32] [oQ 32 (.mov (.c (.int .i64 0)))]) (.block 1 (.loop (.seq (rR [1,4,32,33] [oQ 33 (.bin .lss 32 (.c (.int .i64 2)))]) (.seq (.cond 33 .skip (.exit 1)) (.seq (.block 2 (.seq (rR [1,4,5,32] [qM 34 32,qM 5 34]) (.seq (rR [1,4,5,6,7,32] [qF 36 3 1,qL 37 36,qM 38 5,qI 39 4 37 38,qA 40 4 39,oQ 41 (cF 115 [40]),qM 35 41,oQ 42 (.ext 0 35),oQ 43 (.ext 1 35),qM 6 42,qM 7 43]) (.seq (.seq (rR [1,4,5,6,7,32,45] [qM 44 7,oQ 45 (.bin .neq 44 (.c (.int .i64 0)))]) (.cond 45 (.seq (rR [2,3] [qM 46 7,oQ 2 (.mov (.c (.int .i64 0))),qM 3 46]) .ret) .skip)) (rR [1,4,32] [qM 47 5,qM 48 6,oQ 49 (.sD 2 1 4 47),oN (.store 1 49 48)]))))) (rR [1,4,32] [
 oQ 50 (.bin .add 32 (.c (.int .i64 1))),qM 32 50]))))))) (.seq (rR [2,3] [qF 51 2 1,qL 52 51,oQ 53 (.sD 2 1 4 (.c (.int .i64 0))),qL 54 53,oQ 55 (.sD 2 1 4 (.c (.int .i64 1))),qL 56 55,oQ 57 (cF 140 [52,54,56]),oQ 58 (.ext 0 57),oQ 59 (.ext 1 57),qM 2 58,qM 3 59]) .ret)))))
theorem eg(hn:vals.length<=60)(h:SP Tryz.prog true vals bs yx [.slot 2,.slot 3] Q):AM.Sem Tryz.prog 115 vals bs Q:=
 oZ (keeps:=[(0,[1]),(1,[1,8]),(3,[1,12]),(5,[1,24]),(7,[1,28]),(8,[2,3]),(6,[2,3]),(4,[2,3]),(2,[2,3]),(9,[1,4]),(10,[1,4,32]),(11,[1,4,32,33]),(12,[1,4,5,32]),(13,[1,4,5,6,7,32]),(14,[1,4,5,6,7,32,45]),(15,[2,3]),(16,[1,4,32]),(17,[1,4,32]),(18,[2,3])]) (solo:=[]) Tryz.func115 rfl hn h
def rQ:RC:=
 (.seq (rR [1] [oQ 1 (.box 0),oQ 2 (.mov (.c (.bool false)))]) (.seq (rR [2] [qF 3 0 1,qL 4 3,oQ 5 (.bin .eql 4 (.c (.int .i64 2))),qM 6 5,oG 7 6 true (.aF 3 1),oG 8 6 true (.load false 1 7),oG 9 6 true (.len false 8),oG 10 6 true (.bin .eql 9 (.c (.int .i64 2))),oQ 11 (.pick 6 10 (.c (.bool false))),qM 12 11,oG 13 12 true (.aF 2 1),oG 14 12 true (.load false 1 13),oG 15 12 true (cF 158 [14]),oG 16 12 true (.more (.eqF true) [15,(.c .nfn)]),oQ 17 (.pick 12 16 (.c (.bool false))),qM 2 17]) .ret))
theorem bj(hn:vals.length<=18)(h:SP Tryz.prog true vals bs rQ [.slot 2] Q):AM.Sem Tryz.prog 139 vals bs Q:=
 oZ (keeps:=[(0,[1]),(1,[2])]) (solo:=[]) Tryz.func139 rfl hn h
def D1:RC:=
 (.seq (rR [0] [oQ 2 (.mov (.c .nfn))]) (.seq (.seq (rR [3] [qM 3 0]) (.block 0 (.seq (rR [3,4] [oQ 5 (.bin .eql 3 (.c (.str ⟨⟨[43]⟩⟩))),qM 4 5]) (.cond 4 (.seq (rR [2] [oQ 2 (.mov (.c (.fn (.func 174) [] [])))]) .ret) (.seq (rR [3,6] [oQ 7 (.bin .eql 3 (.c (.str ⟨⟨[45]⟩⟩))),qM 6 7]) (.cond 6 (.seq (rR [2] [oQ 2 (.mov (.c (.fn (.func 175) [] [])))]) .ret) (.seq (rR [3,8] [oQ 9 (.bin .eql 3 (.c (.str ⟨⟨[42]⟩⟩))),qM 8 9]) (.cond 8 (.seq (rR [2] [oQ 2 (.mov (.c (.fn (.func 176) [] [])))]) .ret) (.seq (rR [3,10] [oQ 11 (.bin .eql 3 (.c (.str ⟨⟨[47]⟩⟩))),qM 10 11]) (.cond 10 (.seq (rR [2] [oQ 12 (cF 177 [(.c (.fn (.func 178) [] []))]),qM 2 12]) .ret) (.seq (rR [13] [oQ 14 (.bin .eql 3 (.c (.str ⟨⟨[37]⟩⟩))),qM 13 14]) (.cond 13 (.seq (rR [2] [oQ 15 (cF 177 [(.c (.fn (.func 179) [] []))]),qM 2 15]) .ret) .skip)))))))))))) (.seq (rR [2] [oQ 2 (.mov (.c .nfn))]) .ret)))
theorem cQ(hn:vals.length<=16)(h:SP Tryz.prog true vals bs D1 [.slot 2] Q):AM.Sem Tryz.prog 158 vals bs Q:=
 oZ (keeps:=[(0,[0]),(1,[3]),(2,[3,4]),(4,[3,6]),(6,[3,8]),(8,[3,10]),(10,[13]),(11,[2]),(9,[2]),(7,[2]),(5,[2]),(3,[2]),(12,[2])]) (solo:=[]) Tryz.func158 rfl hn h
def te:RC:=
 (.seq (rR [0] [oQ 2 (.mov (.c (.bool false)))]) (.seq (.seq (rR [5,6,7] [qM 5 0,oQ 6 (.len false 5),oQ 7 (.mov (.c (.int .i64 0)))]) (.block 0 (.loop (.seq (rR [5,6,7,8] [oQ 8 (.bin .lss 7 6)]) (.seq (.cond 8 .skip (.exit 0)) (.seq (.block 1 (.seq (rR [4,5,6,7] [qI 9 1 5 7,qL 10 9,qM 4 10]) (.seq (rR [5,6,7,16] [qM 11 4,oQ 12 (.bin .lss 11 (.c (.int .i64 (-2147483648)))),qM 13 12,oG 14 13 false (.mov 4),oG 15 13 false (.bin .gtr 14 (.c (.int .i64 2147483648))),oQ 16 (.pick 13 (.c (.bool true)) 15)]) (.cond 16 (.seq (rR [2] [oQ 2 (.mov (.c (.bool false)))]) .ret) .skip)))) (rR [5,6,7] [oQ 17 (.bin .add 7 (.c (.int .i64 1))),qM 7 17]))))))) (.seq (rR [2] [oQ 2 (.mov (.c (.bool true)))]) .ret)))
theorem tt(hn:vals.length<=18)(h:SP Tryz.prog true vals bs te [.slot 2] Q):AM.Sem Tryz.prog 138 vals bs Q:=
 oZ (keeps:=[(0,[0]),(1,[5,6,7]),(2,[5,6,7,8]),(3,[4,5,6,7]),(4,[5,6,7,16]),(5,[2]),(6,[5,6,7]),(7,[2])]) (solo:=[]) Tryz.func138 rfl hn h
def vY:RC:=
 (.seq (rR [0,1,2] [oQ 6 (.mov (.c (.int .i64 0))),oQ 7 (.mov (.c (.int .i64 0)))]) (.seq (rR [1,2,8] [qM 11 0,oQ 12 (cF 158 [11]),qM 8 12]) (.seq (.seq (rR [1,2,8,14] [qM 13 8,oQ 14 (.more (.eqF false) [13,(.c .nfn)])]) (.cond 14 (.seq (rR [6,7] [oQ 6 (.mov (.c (.int .i64 0))),oQ 7 (.mov (.c (.int .i64 7)))]) .ret) .skip)) (.seq (.seq (rR [1,2,8,19] [qM 15 1,qM 16 2,oQ 17 (.aM 1 [15,16]),oQ 18 (cF 138 [17]),oQ 19 (.un .not 18)]) (.cond 19 (.seq (rR [6,7] [oQ 6 (.mov (.c (.int .i64 0))),oQ 7 (.mov (.c (.int .i64 5)))]) .ret) .skip)) (.seq (rR [9,10] [qM 21 8,qM 22 1,qM 23 2,oQ 24 (.fp 21 [22,23]),qM 20 24,oQ 25 (.ext 0 20),oQ 26 (.ext 1 20),qM 9 25,qM 10 26]) (.seq (.seq (rR [9,10,34] [qM 27 10,oQ 28 (.bin .eql 27 (.c (.int .i64 0))),qM 29 28,oG 30 29 true (.mov 9),oG 31 29 true (.aM 1 [30]),oG 32 29 true (cF 138 [31]),oG 33 29 true (.un .not 32),oQ 34 (.pick 29 33 (.c (.bool false)))])
 (.cond 34 (rR [9,10] [oQ 10 (.mov (.c (.int .i64 5)))]) .skip)) (.seq (.seq (rR [9,10,36] [qM 35 10,oQ 36 (.bin .neq 35 (.c (.int .i64 0)))]) (.cond 36 (.seq (rR [6,7] [qM 37 10,oQ 6 (.mov (.c (.int .i64 0))),qM 7 37]) .ret) .skip)) (.seq (rR [6,7] [qM 38 9,qM 6 38,oQ 7 (.mov (.c (.int .i64 0)))]) .ret))))))))
theorem aB(hn:vals.length<=39)(h:SP Tryz.prog true vals bs vY [.slot 6,.slot 7] Q):AM.Sem Tryz.prog 140 vals bs Q:=
 oZ (keeps:=[(0,[0,1,2]),(1,[1,2,8]),(2,[1,2,8,14]),(3,[6,7]),(4,[1,2,8,19]),(5,[6,7]),(6,[9,10]),(7,[9,10,34]),(8,[9,10]),(9,[9,10,36]),(10,[6,7]),(11,[6,7])]) (solo:=[]) Tryz.func140 rfl hn h
def tf:RC:=
 (.seq (rR [1] [oQ 1 (.box 0),oQ 2 (.mov (.c .nfn))]) (.seq (rR [2] [oQ 3 (.z6 (.func 184) [] [1]),qM 2 3]) .ret))
theorem dM(hn:vals.length<=4)(h:SP Tryz.prog true vals bs tf [.slot 2] Q):AM.Sem Tryz.prog 177 vals bs Q:=
 oZ (keeps:=[(0,[1]),(1,[2])]) (solo:=[]) Tryz.func177 rfl hn h
def rP:RC:=
 (.seq (rR [0,1] [oQ 4 (.mov (.c (.int .i64 0)))]) (.seq (rR [0,1,5] [qM 6 0,qM 7 1,oQ 8 (.bin .quo 6 7),qM 5 8]) (.seq (.seq (rR [5,19] [qM 9 0,qM 10 1,oQ 11 (.bin .rem 9 10),oQ 12 (.bin .neq 11 (.c (.int .i64 0))),qM 13 12,oG 14 13 true (.mov 0),oG 15 13 true (.bin .lss 14 (.c (.int .i64 0))),oG 16 13 true (.mov 1),oG 17 13 true (.bin .lss 16 (.c (.int .i64 0))),oG 18 13 true (.more (.eqB true) [15,17]),oQ 19 (.pick 13 18 (.c (.bool false)))]) (.cond 19 (rR [5] [qM 20 5,oQ 21 (.bin .sub 20 (.c (.int .i64 1))),qM 5 21]) .skip)) (.seq (rR [4] [qM 22 5,qM 4 22]) .ret))))
theorem r7(hn:vals.length<=23)(h:SP Tryz.prog true vals bs rP [.slot 4] Q):AM.Sem Tryz.prog 178 vals bs Q:=
 oZ (keeps:=[(0,[0,1]),(1,[0,1,5]),(2,[5,19]),(3,[5]),(4,[4])]) (solo:=[]) Tryz.func178 rfl hn h
def yw:RC:=
 (.seq (rR [0,1] [oQ 4 (.mov (.c (.int .i64 0))),oQ 5 (.mov (.c (.int .i64 0)))]) (.seq (rR [4,5] [qM 6 0,qM 7 1,oQ 8 (.bin .add 6 7),qM 4 8,oQ 5 (.mov (.c (.int .i64 0)))]) .ret))
theorem y8(hn:vals.length<=9)(h:SP Tryz.prog true vals bs yw [.slot 4,.slot 5] Q):AM.Sem Tryz.prog 174 vals bs Q:=
 oZ (keeps:=[(0,[0,1]),(1,[4,5])]) (solo:=[]) Tryz.func174 rfl hn h
def yv:RC:=
 (.seq (rR [0,1] [oQ 4 (.mov (.c (.int .i64 0))),oQ 5 (.mov (.c (.int .i64 0)))]) (.seq (rR [4,5] [qM 6 0,qM 7 1,oQ 8 (.bin .sub 6 7),qM 4 8,oQ 5 (.mov (.c (.int .i64 0)))]) .ret))
theorem y7(hn:vals.length<=9)(h:SP Tryz.prog true vals bs yv [.slot 4,.slot 5] Q):AM.Sem Tryz.prog 175 vals bs Q:=
 oZ (keeps:=[(0,[0,1]),(1,[4,5])]) (solo:=[]) Tryz.func175 rfl hn h
def yu:RC:=
 (.seq (rR [0,1] [oQ 4 (.mov (.c (.int .i64 0))),oQ 5 (.mov (.c (.int .i64 0)))]) (.seq (rR [4,5] [qM 6 0,qM 7 1,oQ 8 (.bin .mul 6 7),qM 4 8,oQ 5 (.mov (.c (.int .i64 0)))]) .ret))
theorem y6(hn:vals.length<=9)(h:SP Tryz.prog true vals bs yu [.slot 4,.slot 5] Q):AM.Sem Tryz.prog 176 vals bs Q:=
 oZ (keeps:=[(0,[0,1]),(1,[4,5])]) (solo:=[]) Tryz.func176 rfl hn h
def yt:RC:=
 (.seq (rR [0,1] [oQ 4 (.mov (.c (.int .i64 0)))]) (.seq (rR [4] [qM 5 0,qM 6 0,qM 7 1,oQ 8 (cF 178 [6,7]),qM 9 1,oQ 10 (.bin .mul 8 9),oQ 11 (.bin .sub 5 10),qM 4 11]) .ret))
theorem y5(hn:vals.length<=12)(h:SP Tryz.prog true vals bs yt [.slot 4] Q):AM.Sem Tryz.prog 179 vals bs Q:=
 oZ (keeps:=[(0,[0,1]),(1,[4])]) (solo:=[]) Tryz.func179 rfl hn h
def qo:RC:=
 (.seq (rR [0,1,2] [oQ 5 (.mov (.c (.int .i64 0))),oQ 6 (.mov (.c (.int .i64 0)))]) (.seq (.seq (rR [0,1,2,8] [qM 7 1,oQ 8 (.bin .eql 7 (.c (.int .i64 0)))]) (.cond 8 (.seq (rR [5,6] [oQ 5 (.mov (.c (.int .i64 0))),oQ 6 (.mov (.c (.int .i64 12)))]) .ret) .skip)) (.seq (rR [5,6] [qL 9 2,qM 10 0,qM 11 1,oQ 12 (.fp 9 [10,11]),qM 5 12,oQ 6 (.mov (.c (.int .i64 0)))]) .ret)))
theorem cT(hn:vals.length<=13)(h:SP Tryz.prog true vals bs qo [.slot 5,.slot 6] Q):AM.Sem Tryz.prog 184 vals bs Q:=
 oZ (keeps:=[(0,[0,1,2]),(1,[0,1,2,8]),(2,[5,6]),(3,[5,6])]) (solo:=[]) Tryz.func184 rfl hn h
def lE:RC:=
 (.seq (rR [1] [oQ 1 (.box 0),oQ 2 (.mov (.c (.int .i64 0))),oQ 3 (.mov (.c (.int .i64 0)))]) (.seq (.seq (rR [1,9] [qF 8 0 1,qL 9 8]) (.block 0 (.seq (rR [1,9,10] [oQ 11 (.bin .eql 9 (.c (.int .i64 0))),qM 10 11]) (.cond 10 (.seq (.seq (rR [1,15] [qF 12 1 1,qL 13 12,oQ 14 (cF 116 [13]),oQ 15 (.un .not 14)]) (.cond 15 (.seq (rR [2,3] [oQ 2 (.mov (.c (.int .i64 0))),oQ 3 (.mov (.c (.int .i64 5)))]) .ret) .skip)) (.seq (rR [2,3] [qF 16 1 1,qL 17 16,qM 2 17,oQ 3 (.mov (.c (.int .i64 0)))]) .ret)) (.seq (rR [1,18] [oQ 19 (.bin .eql 9 (.c (.int .i64 1))),qM 18 19]) (.cond 18 (.seq (rR [2,3] [oQ 2 (.mov (.c (.int .i64 0))),oQ 3 (.mov (.c (.int .i64 17)))]) .ret) .skip)))))) (.seq (.seq (rR [1,34] [qF 20 0 1,qL 21 20,oQ 22 (.bin .neq 21 (.c (.int .i64 2))),qM 23 22,oG 24 23 false (.aF 2 1),oG 25 23 false (.load false 1 24),oG 26 23 false (cF 117 [25]),oG 27 23 false (.un .not 26),oQ 28 (.pick 23 (.c (.bool true)) 27),qM 29 28,oG 30 29 false (.aF 3 1),oG 31 29 false (.load false 1 30),oG 32 29 false (.len false 31),oG 33 29 false (.bin .neq 32 (.c (.int .i64 2))),oQ 34 (.pick 29 (.c (.bool true)) 33)])
 (.cond 34 (.seq (rR [2,3] [oQ 2 (.mov (.c (.int .i64 0))),oQ 3 (.mov (.c (.int .i64 11)))]) .ret) .skip)) (.seq (rR [1,4,5] [qF 36 3 1,qL 37 36,oQ 38 (.idx 4 37 (.c (.int .i64 0))),qA 39 4 38,oQ 40 (cF 93 [39]),qM 35 40,oQ 41 (.ext 0 35),oQ 42 (.ext 1 35),qM 4 41,qM 5 42]) (.seq (.seq (rR [1,4,5,44] [qM 43 5,oQ 44 (.bin .neq 43 (.c (.int .i64 0)))]) (.cond 44 (.seq (rR [2,3] [qM 45 5,oQ 2 (.mov (.c (.int .i64 0))),qM 3 45]) .ret) .skip)) (.seq (rR [1,4,6,7] [qF 47 3 1,qL 48 47,oQ 49 (.idx 4 48 (.c (.int .i64 1))),qA 50 4 49,oQ 51 (cF 93 [50]),qM 46 51,oQ 52 (.ext 0 46),oQ 53 (.ext 1 46),qM 6 52,qM 7 53]) (.seq (.seq (rR [1,4,6,7,55] [qM 54 7,oQ 55 (.bin .neq 54 (.c (.int .i64 0)))]) (.cond 55 (.seq (rR [2,3] [qM 56 7,oQ 2 (.mov (.c (.int .i64 0))),qM 3 56]) .ret) .skip)) (.seq (rR [2,3] [qF 57 2 1,qL 58 57,qM 59 4,qM 60 6,oQ 61 (cF 118 [58,59,60]),oQ 62 (.ext 0 61),oQ 63 (.ext 1 61),qM 2 62,qM 3 63])
 .ret))))))))
theorem az(hn:vals.length<=64)(h:SP Tryz.prog true vals bs lE [.slot 2,.slot 3] Q):AM.Sem Tryz.prog 93 vals bs Q:=
 oZ (keeps:=[(0,[1]),(1,[1,9]),(2,[1,9,10]),(6,[1,18]),(7,[2,3]),(3,[1,15]),(4,[2,3]),(5,[2,3]),(8,[1,34]),(9,[2,3]),(10,[1,4,5]),(11,[1,4,5,44]),(12,[2,3]),(13,[1,4,6,7]),(14,[1,4,6,7,55]),(15,[2,3]),(16,[2,3])]) (solo:=[]) Tryz.func93 rfl hn h
def kI:RC:=
 (.seq (rR [0,1,2] [oQ 6 (.mov (.c (.int .i64 0))),oQ 7 (.mov (.c (.int .i64 0)))]) (.seq (.seq (rR [0,1,2,11] [qM 9 0,oQ 10 (cF 117 [9]),oQ 11 (.un .not 10)]) (.cond 11 (.seq (rR [6,7] [oQ 6 (.mov (.c (.int .i64 0))),oQ 7 (.mov (.c (.int .i64 7)))]) .ret) .skip)) (.seq (.seq (rR [0,1,2,19] [qM 12 1,oQ 13 (cF 116 [12]),oQ 14 (.un .not 13),qM 15 14,oG 16 15 false (.mov 2),oG 17 15 false (cF 116 [16]),oG 18 15 false (.un .not 17),oQ 19 (.pick 15 (.c (.bool true)) 18)]) (.cond 19 (.seq (rR [6,7] [oQ 6 (.mov (.c (.int .i64 0))),oQ 7 (.mov (.c (.int .i64 5)))]) .ret) .skip)) (.seq (rR [0,1,2] [oQ 8 (.mov (.c (.int .i64 0)))]) (.seq (.seq (rR [0,1,2,20] [qM 20 0]) (.block 0 (.seq (rR [0,1,2,20,33] [oQ 34 (.bin .eql 20 (.c (.str ⟨⟨[43]⟩⟩))),qM 33 34]) (.cond 33 (rR [8] [qM 35 1,qM 36 2,oQ 37 (.bin .add 35 36),qM 8 37]) (.seq (rR [0,1,2,20,38] [oQ 39 (.bin .eql 20 (.c (.str ⟨⟨[45]⟩⟩))),qM 38 39])
 (.cond 38 (rR [8] [qM 40 1,qM 41 2,oQ 42 (.bin .sub 40 41),qM 8 42]) (.seq (rR [0,1,2,43] [oQ 44 (.bin .eql 20 (.c (.str ⟨⟨[42]⟩⟩))),qM 43 44]) (.cond 43 (rR [8] [qM 45 1,qM 46 2,oQ 47 (.bin .mul 45 46),qM 8 47]) (.seq (.seq (rR [0,1,2,22] [qM 21 2,oQ 22 (.bin .eql 21 (.c (.int .i64 0)))]) (.cond 22 (.seq (rR [6,7] [oQ 6 (.mov (.c (.int .i64 0))),oQ 7 (.mov (.c (.int .i64 12)))]) .ret) .skip)) (.seq (rR [0,1,2,8] [qM 23 1,qM 24 2,oQ 25 (cF 141 [23,24]),qM 8 25]) (.seq (rR [1,2,8,27] [qM 26 0,oQ 27 (.bin .eql 26 (.c (.str ⟨⟨[37]⟩⟩)))]) (.cond 27 (rR [8] [qM 28 1,qM 29 8,qM 30 2,oQ 31 (.bin .mul 29 30),oQ 32 (.bin .sub 28 31),qM 8 32]) .skip)))))))))))) (.seq (.seq (rR [8,50] [qM 48 8,oQ 49 (cF 116 [48]),oQ 50 (.un .not 49)]) (.cond 50 (.seq (rR [6,7] [oQ 6 (.mov (.c (.int .i64 0))),oQ 7 (.mov (.c (.int .i64 5)))]) .ret) .skip)) (.seq (rR [6,7] [
 qM 51 8,qM 6 51,oQ 7 (.mov (.c (.int .i64 0)))]) .ret)))))))
theorem ak(hn:vals.length<=52)(h:SP Tryz.prog true vals bs kI [.slot 6,.slot 7] Q):AM.Sem Tryz.prog 118 vals bs Q:=
 oZ (keeps:=[(0,[0,1,2]),(1,[0,1,2,11]),(2,[6,7]),(3,[0,1,2,19]),(4,[6,7]),(5,[0,1,2]),(6,[0,1,2,20]),(12,[0,1,2,20,33]),(14,[0,1,2,20,38]),(16,[0,1,2,43]),(7,[0,1,2,22]),(8,[6,7]),(9,[0,1,2,8]),(10,[1,2,8,27]),(11,[8]),(17,[8]),(15,[8]),(13,[8]),(18,[8,50]),(19,[6,7]),(20,[6,7])]) (solo:=[]) Tryz.func118 rfl hn h
def iM:RC:=
 (.seq (rR [0] [oQ 2 (.mov (.c (.bool false)))]) (.seq (rR [2] [qM 3 0,oQ 4 (.bin .eql 3 (.c (.str ⟨⟨[43]⟩⟩))),qM 5 4,oG 6 5 false (.mov 0),oG 7 5 false (.bin .eql 6 (.c (.str ⟨⟨[45]⟩⟩))),oQ 8 (.pick 5 (.c (.bool true)) 7),qM 9 8,oG 10 9 false (.mov 0),oG 11 9 false (.bin .eql 10 (.c (.str ⟨⟨[42]⟩⟩))),oQ 12 (.pick 9 (.c (.bool true)) 11),qM 13 12,oG 14 13 false (.mov 0),oG 15 13 false (.bin .eql 14 (.c (.str ⟨⟨[47]⟩⟩))),oQ 16 (.pick 13 (.c (.bool true)) 15),qM 17 16,oG 18 17 false (.mov 0),oG 19 17 false (.bin .eql 18 (.c (.str ⟨⟨[37]⟩⟩))),oQ 20 (.pick 17 (.c (.bool true)) 19),qM 2 20]) .ret))
theorem iW(hn:vals.length<=21)(h:SP Tryz.prog true vals bs iM [.slot 2] Q):AM.Sem Tryz.prog 117 vals bs Q:=
 oZ (keeps:=[(0,[0]),(1,[2])]) (solo:=[]) Tryz.func117 rfl hn h
def nM:RC:=
 (.seq (rR [0] [oQ 2 (.mov (.c (.bool false)))]) (.seq (rR [2] [qM 3 0,oQ 4 (.bin .geq 3 (.c (.int .i64 (-2147483648)))),qM 5 4,oG 6 5 true (.mov 0),oG 7 5 true (.bin .leq 6 (.c (.int .i64 2147483648))),oQ 8 (.pick 5 7 (.c (.bool false))),qM 2 8]) .ret))
theorem nQ(hn:vals.length<=9)(h:SP Tryz.prog true vals bs nM [.slot 2] Q):AM.Sem Tryz.prog 116 vals bs Q:=
 oZ (keeps:=[(0,[0]),(1,[2])]) (solo:=[]) Tryz.func116 rfl hn h
def kH:RC:=
 (.seq (rR [0,1] [oQ 4 (.mov (.c (.int .i64 0)))]) (.seq (.seq (rR [0,1,6] [qM 5 1,oQ 6 (.bin .lss 5 (.c (.int .i64 0)))]) (.cond 6 (rR [0,1] [qM 7 0,oQ 8 (.un .neg 7),qM 9 1,oQ 10 (.un .neg 9),qM 0 8,qM 1 10]) .skip)) (.seq (.seq (rR [0,1,12] [qM 11 0,oQ 12 (.bin .geq 11 (.c (.int .i64 0)))]) (.cond 12 (.seq (rR [4] [qM 13 0,qM 14 1,oQ 15 (.bin .quo 13 14),qM 4 15]) .ret) .skip)) (.seq (rR [4] [qM 16 1,oQ 17 (.bin .sub 16 (.c (.int .i64 1))),qM 18 0,oQ 19 (.bin .sub 17 18),qM 20 1,oQ 21 (.bin .quo 19 20),oQ 22 (.un .neg 21),qM 4 22]) .ret))))
theorem kW(hn:vals.length<=23)(h:SP Tryz.prog true vals bs kH [.slot 4] Q):AM.Sem Tryz.prog 141 vals bs Q:=
 oZ (keeps:=[(0,[0,1]),(1,[0,1,6]),(2,[0,1]),(3,[0,1,12]),(4,[4]),(5,[4])]) (solo:=[]) Tryz.func141 rfl hn h
end Go.CK
namespace Go.CK
open Go.AM Go.Proofs
variable{vals:List AV}{bs:List Box}{Q:AV->List Box->Prop}
end Go.CK
namespace Go.CK
open Go.AM
end Go.CK
namespace Go.CK
open Go.AM
end Go.CK
namespace Go.CK
open Go.AM Go.Proofs
end Go.CK
namespace Go.CK
open Go.AM Go.Proofs
end Go.CK
namespace Go.CK
open Go.AM Go.Proofs
end Go.CK
namespace Go.CK
open Go.AM Go.Proofs
end Go.CK
namespace Go.CK
open Go.AM Go.Proofs
end Go.CK
namespace Go.CK
open Go.AM Go.Proofs
theorem gh(a b:Tm):Fun Tryz.prog 58 [a.avw,b.avw] (.bool (decide (a.cmp b=0))):=by
 refine Fun.of (Cu (by simp) ?_) rfl rfl
 conv=>whnf
 repeat' (first|refine gF (aa.fn (xY a b) ?_)|refine ae.nrm ?_)<;>conv=>whnf
end Go.CK
namespace Go.CK
def C4:ByteArray:=⟨#[43]⟩
def CY:ByteArray:=⟨#[45]⟩
def C0:ByteArray:=⟨#[42]⟩
def C2:ByteArray:=⟨#[47]⟩
def cMod:ByteArray:=⟨#[37]⟩
def jc(s:ByteArray):Bool:=decide (s=C4\/s=CY\/s=C0\/s=C2\/s=cMod)
def inR(n:Int):Bool:=decide (-2147483648<=n/\n<=2147483648)
def quo(a b:Int):Int:=if a.tmod b≠0/\((a<0)≠(b<0)) then a.tdiv b-1 else a.tdiv b
def flr(a b:Int):Int:=if b<0 then (if 0<=-a then (-a).tdiv (-b) else-((-b-1- -a).tdiv (-b))) else (if 0<=a then a.tdiv b else-((b-1-a).tdiv b))
theorem KI(a b:Int)(hb:b≠0):quo a b=a.fdiv b:=by
 unfold quo;have hdvd:(b∣a)↔a.tmod b=0:=⟨λh=>Int.tmod_eq_zero_of_dvd h,λh=>Int.dvd_of_tmod_eq_zero h⟩;rw[Int.fdiv_eq_tdiv]
 by_cases h0:a.tmod b=0
 .simp [h0,hdvd]
 .rcases Int.lt_or_gt_of_ne hb with hb'|hb'
  .have e1:b.sign=-1:=Int.sign_eq_neg_one_of_neg hb'
   by_cases ha:a<0
   .simp [h0,hdvd,ha,hb',e1,show¬0<=a by omega,show¬0<=b by omega]
   .simp [h0,hdvd,ha,hb',show 0<=a by omega,show¬0<=b by omega]
  .have e1:b.sign=1:=Int.sign_eq_one_of_pos hb'
   by_cases ha:a<0
   .simp [h0,hdvd,ha,e1,show¬b<0 by omega,show¬0<=a by omega,show 0<=b by omega]
   .simp [h0,hdvd,ha,show¬b<0 by omega,show 0<=a by omega,show 0<=b by omega]
theorem EW{a b q:Int}(h:(0<b/\0<=a-q*b/\a-q*b<b)\/(b<0/\a-q*b<=0/\b<a-q*b)):a.fdiv b=q:=by
 rcases h with ⟨hb,h1,h2⟩|⟨hb,h1,h2⟩
 .rw [yL _ (by omega)]
  have e:a=(a-q*b)+q*b:=by omega
  rw[e,Int.add_mul_ediv_right _ _ (by omega),Int.ediv_eq_zero_of_lt h1 h2];omega
 .rw [<-Int.neg_fdiv_neg,yL _ (by omega)]
  have e:-a=(-(a-q*b))+q*(-b):=by rw[Int.mul_neg];omega
  rw[e,Int.add_mul_ediv_right _ _ (by omega),Int.ediv_eq_zero_of_lt (by omega) (by omega)];omega
theorem re{a b:Int}(ha:0<=a)(hb:0<b):0<=a-a.tdiv b*b/\a-a.tdiv b*b<b:=by
 rw[Int.tdiv_eq_ediv_of_nonneg ha];have h1:=Int.emod_nonneg a (show b≠0 by omega)
 have h2:=Int.emod_lt_of_pos a hb;have h3:=Int.emod_add_mul_ediv a b;rw[Int.mul_comm b] at h3;omega
theorem Lq(a b:Int)(hb:b≠0):flr a b=a.fdiv b:=by
 symm;apply EW;unfold flr
 by_cases hb':b<0
 .right;rw[if_pos hb']
  by_cases ha:0<=-a
  .rw [if_pos ha];have h:=re ha (show 0< -b by omega)
   rw[Int.mul_neg] at h;omega
  .rw [if_neg ha];have h:=re (a:=-b-1- -a) (b:=-b) (by omega) (by omega)
   rw[Int.mul_neg] at h;rw[Int.neg_mul];omega
 .left;rw[if_neg hb']
  by_cases ha:0<=a
  .rw [if_pos ha];have h:=re ha (show 0<b by omega)
   omega
  .rw [if_neg ha];have h:=re (a:=b-1-a) (b:=b) (by omega) (by omega)
   rw[Int.neg_mul];omega
theorem qN{a b:Int}(hb:b≠0)(h1:-2147483648<=a)(h2:a<=2147483648):-2147483648<=a.fdiv b/\a.fdiv b<=2147483648:=by
 rcases Int.lt_or_gt_of_ne hb with hb'|hb'
 .rw [<-Int.neg_fdiv_neg,yL _ (by omega)]
  have h3:=Int.natAbs_ediv_le_natAbs (-a) (-b);omega
 .rw [yL _ (by omega)]
  have h3:=Int.natAbs_ediv_le_natAbs a b;omega
theorem F1{a:Int}(b:Int)(h1:-2147483648<=a)(h2:a<=2147483648):-2147483648<=a.tdiv b/\a.tdiv b<=2147483648:=by
 have h3:=Int.natAbs_tdiv a b;have h4:=Nat.div_le_self a.natAbs b.natAbs;have h5:(a.tdiv b).natAbs<=a.natAbs:=by rw[h3];exact h4
 omega
theorem pr{a b:Int}(h1:-2147483648<=a)(h2:a<=2147483648)(h3:-2147483648<=b)(h4:b<=2147483648):-4611686018427387904<=a*b/\a*b<=4611686018427387904:=by
 have h5:(a*b).natAbs<=4611686018427387904:=by
  rw[Int.natAbs_mul];exact ZO (Nat.mul_le_mul (show a.natAbs<=2147483648 by omega) (show b.natAbs<=2147483648 by omega)) (by decide)
 omega
def opv(s:ByteArray)(a b:Int):Int×Int:=
 if s=C4 then (a+b,0) else if s=CY then (a-b,0) else if s=C0 then (a*b,0) else if b=0 then (0,12)
 else if s=C2 then (a.fdiv b,0) else (a-a.fdiv b*b,0)
def apply(s:ByteArray)(a b:Int):Int×Int:=
 if jc s=false then (0,7) else if (inR a&&inR b)=false then (0,5) else
 if (opv s a b).2≠0 then (0,(opv s a b).2) else if inR (opv s a b).1=false then (0,5) else ((opv s a b).1,0)
theorem je{n:Int}:inR n=true↔-2147483648<=n/\n<=2147483648:=by simp[inR]
theorem tj{s:ByteArray}{a b:Int}(ia:inR a=true)(ib:inR b=true):bM (opv s a b).1:=by
 have ha':=je.1 ia;have hb':=je.1 ib;have hm:=pr ha'.1 ha'.2 hb'.1 hb'.2;unfold opv bM;split
 .dsimp only;omega
 split
 .dsimp only;omega
 split
 .dsimp only;omega
 split
 .dsimp only;omega
 rename_i h4;have h5:=qN h4 ha'.1 ha'.2;have h6:=pr h5.1 h5.2 hb'.1 hb'.2;split
 .dsimp only;omega
 .dsimp only;omega
end Go.CK
namespace Go.CK
def aL:Tm->Int×Int
 |.mk k n s [a,b]=>
  if k=1 then (0,17) else if k=0 then (if inR n=true then (n,0) else (0,5)) else if k≠2\/jc s=false then (0,11) else
  if (aL a).2≠0 then (0,(aL a).2) else if (aL b).2≠0 then (0,(aL b).2) else apply s (aL a).1 (aL b).1
 |.mk k n _ _=>if k=1 then (0,17) else if k=0 then (if inR n=true then (n,0) else (0,5)) else (0,11)
theorem E3{k n:Int}{s:ByteArray}{l:List Tm}(h:l.length≠2):aL (.mk k n s l)=if k=1 then (0,17) else if k=0 then (if inR n=true then (n,0) else (0,5)) else (0,11):=by
 match l,h with
 |[],_=>simp[aL]
 |[a],_=>simp[aL]
 |a::b::c::r,_=>simp[aL]
theorem Lx{k n:Int}{s:ByteArray}{a b:Tm}:aL (.mk k n s [a,b])=if k=1 then (0,17) else if k=0 then (if inR n=true then (n,0) else (0,5)) else if k≠2\/jc s=false then (0,11) else
  if (aL a).2≠0 then (0,(aL a).2) else if (aL b).2≠0 then (0,(aL b).2) else apply s (aL a).1 (aL b).1:=by rw[aL]
theorem qe{α:Type}{l:List α}(h:l.length=2):∃a b,l=[a,b]:=by
 match l,h with
 |[a,b],_=>exact⟨a,b,rfl⟩
theorem xp{k n:Int}{s:ByteArray}{l:List Tm}(h2:k≠2):aL (.mk k n s l)=if k=1 then (0,17) else if k=0 then (if inR n=true then (n,0) else (0,5)) else (0,11):=by
 by_cases h:l.length=2
 .obtain ⟨a,b,rfl⟩:=qe h;rw[Lx,if_pos (show k≠2\/jc s=false from .inl h2)]
 .exact E3 h
theorem JC{n:Int}{s:ByteArray}{l:List Tm}(h:l.length≠2):aL (.mk 2 n s l)=(0,11):=by
 rw[E3 h];simp
theorem Bp{n:Int}{s:ByteArray}{a b:Tm}:aL (.mk 2 n s [a,b])=if jc s=false then (0,11) else
  if (aL a).2≠0 then (0,(aL a).2) else if (aL b).2≠0 then (0,(aL b).2) else apply s (aL a).1 (aL b).1:=by
 rw[aL];simp
end Go.CK
namespace Go.CK
open Go.AM Go.Proofs
theorem GP{n:Int}(h:¬(-2147483648<=n/\n<=2147483648)):inR n=false:=by unfold inR;exact decide_eq_false h
theorem M0{n:Int}(h:-2147483648<=n/\n<=2147483648):inR n=true:=by unfold inR;exact decide_eq_true h
theorem oJ(n:Int):Fun Tryz.prog 116 [.int .i64 n] (.bool (inR n)):=by
 refine Fun.of (nQ (by simp) ?_) rfl rfl
 conv=>whnf
 repeat' (first|(refine gC ?_;first|(refine gD ?_;first|refine cI ?_|refine cJ ?_)|refine al.le (λhc=>?_) (λhc=>?_))|refine ae.nrm ?_)<;>conv=>whnf
 .unfold inR;congr 1;exact decide_eq_decide.2 ⟨λh=>⟨by omega,h⟩,λh=>h.2⟩
 .rw [GP (by omega)]
theorem rY(s:ByteArray):Fun Tryz.prog 117 [.str s] (.bool (jc s)):=by
 refine Fun.of (iW (by simp) ?_) rfl rfl
 conv=>whnf
 repeat' (first|(refine gC ?_;first|refine cY ?_|(refine gD ?_;first|refine cI ?_|refine cJ ?_)|refine al.dec (λhc=>?_) (λhc=>?_))|refine ae.nrm ?_)<;>conv=>whnf
 .subst hc;rfl
 .subst hc;rfl
 .subst hc;rfl
 .subst hc;rfl
 .rename_i h1 h2 h3;unfold jc;congr 1
  exact decide_eq_decide.2 ⟨λh=>.inr (.inr (.inr (.inr h))),λh=>by
   rcases h with h|h|h|h|h
   .exact absurd h h1
   .exact absurd h h2
   .exact absurd h h3
   .exact absurd h hc
   .exact h⟩
theorem On{a b:Int}(h:bM (a+b)):Fun Tryz.prog 174 [.int .i64 a,.int .i64 b] (.tup [.int .i64 (a+b),.int .i64 0]):=by
 unfold bM at h;refine Fun.of (y8 (by simp) ?_) rfl rfl
 conv=>whnf
 repeat' (first|refine gW (wI ?_)|refine ae.nrm ?_)<;>conv=>whnf
theorem Om{a b:Int}(h:bM (a-b)):Fun Tryz.prog 175 [.int .i64 a,.int .i64 b] (.tup [.int .i64 (a-b),.int .i64 0]):=by
 unfold bM at h;refine Fun.of (y7 (by simp) ?_) rfl rfl
 conv=>whnf
 repeat' (first|refine gW (wI ?_)|refine ae.nrm ?_)<;>conv=>whnf
theorem Ol{a b:Int}(h:bM (a*b)):Fun Tryz.prog 176 [.int .i64 a,.int .i64 b] (.tup [.int .i64 (a*b),.int .i64 0]):=by
 unfold bM at h;refine Fun.of (y6 (by simp) ?_) rfl rfl
 conv=>whnf
 repeat' (first|refine gW (wI ?_)|refine ae.nrm ?_)<;>conv=>whnf
set_option maxHeartbeats 1000000 in
theorem wZ(l:List Int)(hl:l.length<=100):Fun Tryz.prog 138 [.sl .no (l.map (AV.int .i64))] (.bool (l.all inR)):=by
 refine Fun.of (tt (by simp) ?_) rfl rfl
 conv=>whnf
 repeat' refine gL (.map ?_)<;>conv=>whnf
 refine aD.by (fb:=true) (λs (q:Nat)=>s.nI [(7,.int .i64 q)]) (λq=>q<=l.length/\l.all inR=(l.drop q).all inR) (λq=>l.length-q) 0 ⟨zJ _,by rw[List.drop_zero]⟩ ?_ ?_
 .exact aH
 .rintro q ⟨hq,he⟩
  by_cases hlt:q<l.length
  .obtain ⟨x,hx⟩:∃x,l[q]? =some x:=⟨_,zA hlt⟩;have hx2:(l.map (AV.int .i64))[q]? =some (.int .i64 x):=by rw[ZF,hx];rfl
   have hd:(l.drop q).all inR=(inR x&&(l.drop (q+1)).all inR):=by
    rw[zH hlt,(zB.1 hx).2,Zr]
   rw[hd] at he
   conv=>whnf
   repeat' (first|(refine gC ?_;first|refine cY ?_|(refine gD ?_;first|refine cI ?_|refine cJ ?_)|refine al.lt (λhc=>?_) (λhc=>?_))|refine gW (wI ?_)|refine gI (gM (iE ?_))|refine ae.nrm ?_)<;>conv=>whnf
   .rw [he,GP (by omega)];rfl
   .rw [he,GP (by omega)];rfl
   .refine ⟨q+1,⟨⟨hlt,by rw[he,M0 (by omega)];rfl⟩,by omega⟩,?_⟩
    exact aH
  .have hq2:q=l.length:=by omega
   subst hq2;rw[zj] at he
   conv=>whnf
   repeat' (first|refine gC (gD (cJ ?_))|refine ae.nrm ?_)<;>conv=>whnf
   rw[he];rfl
theorem pB(a b:Int):Fun Tryz.prog 138 [.sl .no [.int .i64 a,.int .i64 b]] (.bool (inR a&&inR b)):=by
 have:=wZ [a,b] (by simp)
 simp only[zP,Zf,Zr,List.all_nil,Bool.and_true] at this;exact this
theorem pC(a:Int):Fun Tryz.prog 138 [.sl .no [.int .i64 a]] (.bool (inR a)):=by
 have:=wZ [a] (by simp)
 simp only[zP,Zf,Zr,List.all_nil,Bool.and_true] at this;exact this
theorem ud{a b:Int}(hb:b≠0)(h1:inR a=true)(h2:inR b=true):Fun Tryz.prog 178 [.int .i64 a,.int .i64 b] (.int .i64 (a.fdiv b)):=by
 rw[<-KI a b hb];have h3:=je.1 h1;have h4:=F1 b h3.1 h3.2;refine Fun.of (r7 (by simp) ?_) rfl rfl
 conv=>whnf
 repeat' (first|(refine gC ?_;first|refine cN ?_|refine .not ?_|(refine gD ?_;first|refine cI ?_|refine cJ ?_)|refine al.dec (λhc=>?_) (λhc=>?_))|refine gW (wI ?_)|refine gN (nS ?_)|refine ae.nrm ?_)<;>conv=>whnf
 all_goals unfold quo
 .rw [if_neg (λe=>e.1 hc)]
 .rename_i h0;rw[if_neg (λe=>e.2 (propext (decide_eq_decide.1 hc)))]
 .rename_i h0;rw[if_pos ⟨h0,λe=>hc (decide_eq_decide.2 (iff_of_eq e))⟩]
theorem Hu{x:Int}(y:Int)(h1:-5000000000<=x)(h2:x<=5000000000):-5000000000<=x.tdiv y/\x.tdiv y<=5000000000:=by
 have h3:=Int.natAbs_tdiv x y;have h4:=Nat.div_le_self x.natAbs y.natAbs;have h5:(x.tdiv y).natAbs<=x.natAbs:=by rw[h3];exact h4
 omega
theorem Bi{a b:Int}(hb:b≠0)(h1:inR a=true)(h2:inR b=true):Fun Tryz.prog 141 [.int .i64 a,.int .i64 b] (.int .i64 (a.fdiv b)):=by
 rw[<-Lq a b hb];have h3:=je.1 h1;have h4:=je.1 h2;have t1:=Hu (x:=a) b (by omega) (by omega)
 have t2:=Hu (x:=0-a) (0-b) (by omega) (by omega)
 have t3:=Hu (x:=0-b-1-(0-a)) (0-b) (by omega) (by omega)
 have t4:=Hu (x:=b-1-a) b (by omega) (by omega)
 have e1:(0:Int)-a=-a:=by omega
 have e2:(0:Int)-b=-b:=by omega
 refine Fun.of (kW (by simp) ?_) rfl rfl
 conv=>whnf
 repeat' (first|(refine gC ?_;first|refine al.lt (λhc=>?_) (λhc=>?_)|refine al.le (λhc=>?_) (λhc=>?_))|refine gW (wI ?_)|refine gN (nS ?_)|refine ae.nrm ?_)<;>conv=>whnf
 all_goals unfold flr
 all_goals try rw[e1] at*
 all_goals try rw[e2] at*
 all_goals first|(rw[if_pos (by omega),if_pos (by omega)])|(rw[if_pos (by omega),if_neg (by omega)];congr 1;omega)|(rw[if_neg (by omega),if_pos (by omega)])|(rw[if_neg (by omega),if_neg (by omega)];congr 1;omega)|skip
end Go.CK
