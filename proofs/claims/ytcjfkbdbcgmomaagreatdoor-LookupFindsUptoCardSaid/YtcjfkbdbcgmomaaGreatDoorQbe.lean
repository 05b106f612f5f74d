/-
  By an AI agent.
-/
import Derived.Test.YtcjfkbdbcgmomaaGreatDoorQbd
set_option linter.unusedSimpArgs false
set_option linter.unusedVariables false
set_option maxRecDepth 100000
namespace Go.CK
open Go.AM Go.Proofs
open Go.AM Go.Proofs
theorem IJ{l:List Tm}(a:l.length<=4294967296):AM.Sem Tryz.prog 102 [.ptr 0 0,.sl .no (l.map Tm.av),.int .i64 20] [.cells [.int .i64 200]] (pS 200 (vLB 200 20 l) (Tm.szs l)):=F1 ⟨by decide,by decide⟩ ⟨by decide,by decide⟩ a λx _ n c b=>I7 x n 20 c b (by decide) (by decide)
def At.right(x:At):Bool:=cZ x.name&&(decide (x.args.length<=6)&&vLB 200 20 x.args)
theorem BF(x:At)(f:x.args.length<=4294967296):Fun Tryz.prog 49 [x.av] (.bool x.right):=by
 have a:=uq x.name;unfold At.right
 cases c:cZ x.name with
 |false=>
  rw[c] at a;refine Fun.of (ew (by simp) ?_) rfl rfl
  conv=>whnf
  repeat' (first|refine gF (ae.fn (a) ?_)|refine gC (cN ?_)|refine ag.nrm ?_)<;>conv=>whnf
  rfl
 |true=>
 rw[c] at a
 by_cases b:x.args.length<=6
 .rw [decide_eq_true b];refine Fun.of (ew (by simp) ?_) rfl rfl
  conv=>whnf
  repeat' (first|refine gF (ae.fn (a) ?_)|(refine gC ?_;first|refine cY ?_|refine gD (cI ?_))|refine gL (.map ?_))<;>conv=>whnf
  refine ae.at [1] (IJ f) rfl rfl ?_ oko ?_
  .rintro r bs' ⟨rfl,d,rfl,_⟩;exact⟨rfl,rfl,oko⟩
  rintro r bs' ⟨rfl,d,rfl,e⟩
  conv=>whnf
  repeat' refine gC (gD (cI ?_))<;>conv=>whnf
  conv=>whnf
  repeat' refine ag.nrm ?_<;>conv=>whnf
  rfl
 .rw [decide_eq_false b];refine Fun.of (ew (by simp) ?_) rfl rfl
  conv=>whnf
  repeat' (first|refine gF (ae.fn (a) ?_)|(refine gC ?_;first|refine cY ?_|refine gD (cJ ?_))|refine gL (.map ?_)|refine ag.nrm ?_)<;>conv=>whnf
  rfl
def arG(op:Int):Int:=if op=1\/op=2 then 0 else if op=11\/op=12 then 1 else 2
def Gl.right(g:Gl):Bool:=if g.op=0 then (At.mk g.name g.args).right else decide (0<g.op/\g.op<=12)&&(decide (g.name=⟨⟨[]⟩⟩)&&(decide ((g.args.length:Int)=arG g.op)&&vLB 200 20 g.args))
def raB(l:List Tm):Bool:=l.all Tm.right&&decide ((Tm.szs l:Int)<=200)
theorem K2(n:Int)(h:0<=n):∀l:List Tm,(Tm.jr l:Int)<=n↔∀x∈l,(x.dep:Int)<=n
 |[]=>by simp[Tm.jr,h]
 |x::l=>by
  have ih:=K2 n h l;simp only[Tm.jr,zI,forall_eq_or_imp,<-ih];omega
theorem x9:∀l:List Tm,Tm.dL l=l.all Tm.form
 |[]=>rfl
 |x::l=>by rw[Tm.dL,List.all_cons,x9 l]
theorem Nv(l:List Tm):raB l=vLB 200 20 l:=by
 unfold raB vLB;rw[Bool.eq_iff_iff,x9];simp only[zD,decide_eq_true_eq,zS];rw[K2 20 (by decide)]
 constructor
 .rintro ⟨b,c⟩;exact⟨λx a=>(yY (b x a)).1,c,λx a=>(yY (b x a)).2.2⟩
 .rintro ⟨b,c,d⟩;refine⟨λx a=>?_,c⟩;have:=Gm a;unfold Tm.right vB;rw[b x a,za,decide_eq_true_eq];exact⟨by omega,d x a⟩
theorem p9{l:List Tm}(m:Tm.aA l<=100000000)(k:l.length<=4000000000):Fun Tryz.prog 135 [.sl .no (l.map Tm.av)] (.bool (vLB 200 20 l)):=by
 rw[<-Nv];refine Fun.of (ga (by simp) ?_) rfl rfl
 conv=>whnf
 skip;refine ax.by (fb:=true) (λ_ (j:Nat)=>⟨[(0,.sl .no (l.map Tm.av)),(3,.int .i64 (Tm.szs (l.take j):Int)),(4,.int .i64 (j:Int))],[],0⟩) (λj=>j<=l.length/\(l.take j).all Tm.right=true) (λj=>l.length-j) 0 ⟨zJ _,rfl⟩ ?_ ?_
 .refine al.at_ ?_ rfl
  conv=>whnf
  refine And.intro ?_ ?_<;>conv=>whnf
  all_goals repeat' (first|(refine gV ?_;first|refine vE ?_|refine vI ?_|(refine WkN.norm ?_ ?_;(focus (simp[AV.norm,AV.ay,Tm.szs];done))))|exact True.intro)<;>conv=>whnf
 .rintro j ⟨i,d⟩
  by_cases f:j<l.length
  .obtain ⟨x,e⟩:∃x,l[j]? =some x:=⟨_,zA f⟩;have b:l.take (j+1)=l.take j++[x]:=by rw[ZC,e];rfl
   have a:=zE e;have g:=fc a;have c:=HJ x (by omega)
   have h:=BV x (by omega)
   have o:=pX l e;have n:=og l
   cases hr:x.right with
   |false=>
    rw[hr] at c
    have:raB l=false:=by
     unfold raB;rw[List.all_eq_false.2 ⟨x,a,by simp[hr]⟩,zw]
    rw[this]
    conv=>whnf
    repeat' (first|refine gF (ae.fn (c) ?_)|(refine gC ?_;first|refine cN ?_|refine .not ?_|refine gD (cI ?_))|refine gL (.map ?_)|refine gI (gT (iA ?_))|refine ag.nrm ?_)<;>conv=>whnf
   |true=>
    rw[hr] at c
    conv=>whnf
    repeat' (first|(refine gF ?_;first|refine ae.fn (c) ?_|refine ae.fn (h) ?_)|(refine gC ?_;first|refine cY ?_|refine .not ?_|refine gD (cI ?_))|refine gW (wI ?_)|refine gL (.map ?_)|refine gI (gT (iA ?_)))<;>conv=>whnf
    refine⟨j+1,⟨⟨f,by rw[b];simp[d,hr]⟩,by omega⟩,?_⟩
    refine al.at_ ?_ rfl
    conv=>whnf
    refine And.intro ?_ ?_<;>conv=>whnf
    all_goals repeat' (first|(refine gV ?_;first|refine vE ?_|refine vI ?_|(refine WkN.norm ?_ ?_;(focus (simp[AV.norm,AV.ay,b,nd];done))))|exact True.intro)<;>conv=>whnf
  .obtain rfl:j=l.length:=by omega
   rw[zz] at d|-;unfold raB;rw[d,za]
   conv=>whnf
   repeat' (first|refine gC (gD (cJ ?_))|refine gL (.map ?_)|refine ag.nrm ?_)<;>conv=>whnf
theorem fU(x:At)(e:Tm.aA x.args<=100000000)(d:x.args.length<=4000000000):Fun Tryz.prog 75 [x.av] (.bool x.right):=by
 have a:=oi x.name;have hr:=p9 e d;unfold At.right
 cases c:cZ x.name with
 |false=>
  rw[c] at a;refine Fun.of (bO (by simp) ?_) rfl rfl
  conv=>whnf
  repeat' (first|refine gF (ae.fn (a) ?_)|refine gC (cN ?_)|refine ag.nrm ?_)<;>conv=>whnf
  all_goals rfl
 |true=>
 rw[c] at a
 by_cases b:x.args.length<=6
 .rw [decide_eq_true b];refine Fun.of (bO (by simp) ?_) rfl rfl
  conv=>whnf
  repeat' (first|(refine gF ?_;first|refine ae.fn (a) ?_|refine ae.fn (hr) ?_)|(refine gC ?_;first|refine cY ?_|refine gD (cI ?_))|refine gL (.map ?_)|refine ag.nrm ?_)<;>conv=>whnf
  all_goals rfl
 .rw [decide_eq_false b];refine Fun.of (bO (by simp) ?_) rfl rfl
  conv=>whnf
  repeat' (first|refine gF (ae.fn (a) ?_)|(refine gC ?_;first|refine cY ?_|refine gD (cJ ?_))|refine gL (.map ?_)|refine ag.nrm ?_)<;>conv=>whnf
  all_goals rfl
def arR(op:Int):Int:=if op=1\/op=2 then 0 else if op=11\/op=12 then 1 else if 2<op/\op<11 then 2 else-1
theorem Lw(op:Int):Fun Tryz.prog 163 [.int .i64 op] (.int .i64 (arR op)):=by
 unfold arR;refine Fun.of (ku (by simp) ?_) rfl rfl
 conv=>whnf
 repeat' (first|(refine gC ?_;first|refine cY ?_|refine cN ?_|(refine gD ?_;first|refine cI ?_|refine cJ ?_)|refine ak.lt (λa=>?_) (λa=>?_)|refine ak.dec (λa=>?_) (λa=>?_))|refine ag.nrm ?_)<;>conv=>whnf
 all_goals (congr 1;repeat (first|rw[if_pos (by omega)]|rw[if_neg (by omega)]))
theorem s9(g:Gl)(h:Tm.aA g.args<=100000000)(c:g.args.length<=4000000000):Fun Tryz.prog 116 [g.av] (.bool g.right):=by
 have e:=fU (At.mk g.name g.args) h c;have hr:=p9 h c;have d:=Lw g.op;unfold Gl.right
 by_cases j:g.op=0
 .rw [if_pos j];refine Fun.of (a6 (by simp) ?_) rfl rfl
  conv=>whnf
  repeat' (first|refine gF (ae.fn (e) ?_)|refine gC (gD (cI ?_))|refine ag.nrm ?_)<;>conv=>whnf
 rw[if_neg j]
 have k:(0<g.op/\g.op<=12)/\arR g.op=arG g.op\/¬(0<g.op/\g.op<=12)/\arR g.op=-1:=by
  unfold arR arG
  by_cases b:g.op=1\/g.op=2
  .rw [if_pos b,if_pos b];exact .inl ⟨by omega,rfl⟩
  .rw [if_neg b,if_neg b]
   by_cases a:g.op=11\/g.op=12
   .rw [if_pos a,if_pos a];exact .inl ⟨by omega,rfl⟩
   .rw [if_neg a,if_neg a]
    by_cases i:2<g.op/\g.op<11
    .rw [if_pos i];exact .inl ⟨by omega,rfl⟩
    .rw [if_neg i];exact .inr ⟨by omega,rfl⟩
 rcases k with ⟨b,a⟩|⟨b,a⟩
 .rw [a] at d;rw[decide_eq_true b,za]
  by_cases f:g.name=⟨⟨[]⟩⟩
  rotate_left
  .rw [decide_eq_false f,zw];refine Fun.of (a6 (by simp) ?_) rfl rfl
   conv=>whnf
   repeat' (first|(refine gC ?_;first|refine cN ?_|refine gD (cJ ?_))|refine ag.nrm ?_)<;>conv=>whnf
  rw[decide_eq_true f,za]
  by_cases c:(g.args.length:Int)=arG g.op
  .rw [decide_eq_true c,za];refine Fun.of (a6 (by simp) ?_) rfl rfl
   conv=>whnf
   repeat' (first|(refine gG ?_;first|refine aW.fn (d) ?_|refine aW.fn (hr) ?_)|(refine gC ?_;(refine gD ?_;first|refine cI ?_|refine cJ ?_))|refine gL (.map ?_)|refine ag.nrm ?_)<;>conv=>whnf
  .rw [decide_eq_false c,zw];refine Fun.of (a6 (by simp) ?_) rfl rfl
   conv=>whnf
   repeat' (first|refine gG (aW.fn (d) ?_)|(refine gC ?_;(refine gD ?_;first|refine cI ?_|refine cJ ?_))|refine gL (.map ?_)|refine ag.nrm ?_)<;>conv=>whnf
 .rw [a] at d;rw[decide_eq_false b,zw];refine Fun.of (a6 (by simp) ?_) rfl rfl
  conv=>whnf
  repeat' (first|refine gG (aW.fn (d) ?_)|(refine gC ?_;first|refine cN ?_|(refine gD ?_;first|refine cI ?_|refine cJ ?_)|refine ak.dec (λe=>?_) (λe=>?_))|refine gL (.map ?_)|refine ag.nrm ?_)<;>conv=>whnf
end Go.CK
namespace Go.CK
open Go.AM Go.Proofs
variable{ab:List AV}{bs:List Box}{Q:AV->List Box->Prop}
def gy:RC:=
 (.seq (rR [0,1,2] [oQ 6 (.mov (.c (.bool false)))]) (.seq (.seq (rR [0,1,2,7] [oQ 7 (.mov (.c (.int .i64 0)))]) (.block 0 (.loop (.seq (.seq (rR [0,1,2,7,11] [qM 8 7,qM 9 0,oQ 10 (.len false 9),oQ 11 (.bin .lss 8 10)]) (.cond 11 .skip (.exit 0))) (.seq (.block 1 (.seq (rR [0,1,2,7,29] [qM 14 0,qM 15 7,qI 16 2 14 15,qF 17 0 16,qL 18 17,qM 19 1,oQ 20 (.bin .eql 18 19),qM 21 20,oG 22 21 true (.mov 0),oG 23 21 true (.mov 7),oG 24 21 true (.idx 2 22 23),oG 25 21 true (.aL 1 24),oG 26 21 true (.load false 1 25),oG 27 21 true (.mov 2),oG 28 21 true (.bin .eql 26 27),oQ 29 (.pick 21 28 (.c (.bool false)))]) (.cond 29 (.seq (rR [6] [oQ 6 (.mov (.c (.bool true)))]) .ret) .skip))) (rR [0,1,2,7] [qM 12 7,oQ 13 (.bin .add 12 (.c (.int .i64 1))),qM 7 13])))))) (.seq (rR [6] [oQ 6 (.mov (.c (.bool false)))]) .ret)))
theorem gR(hn:ab.length<=30)(h:SP Tryz.prog true ab bs gy [.slot 6] Q):AM.Sem Tryz.prog 62 ab bs Q:=
 oZ (keeps:=[(0,[0,1,2]),(1,[0,1,2,7]),(2,[0,1,2,7,11]),(4,[0,1,2,7,29]),(5,[6]),(3,[0,1,2,7]),(6,[6])]) (solo:=[]) Tryz.func62 rfl hn h
def iz:RC:=
 (.seq (rR [0,1,2] [oQ 6 (.mov (.c (.int .i64 0)))]) (.seq (rR [0,1,2,7] [oQ 7 (.mov (.c (.int .i64 7)))]) (.seq (.seq (rR [0,1,2,7,8] [oQ 8 (.mov (.c (.int .i64 0)))]) (.block 0 (.loop (.seq (.seq (rR [0,1,2,7,8,12] [qM 9 8,qM 10 0,oQ 11 (.len false 10),oQ 12 (.bin .lss 9 11)]) (.cond 12 .skip (.exit 0))) (.seq (.block 1 (.seq (rR [0,1,2,7,8,21] [qM 15 0,qM 16 8,qI 17 2 15 16,qF 18 0 17,qL 19 18,qM 20 1,oQ 21 (.bin .eql 19 20)]) (.cond 21 (rR [0,1,2,7,8] [oQ 7 (.mov (.c (.int .i64 9)))]) .skip))) (rR [0,1,2,7,8] [qM 13 8,oQ 14 (.bin .add 13 (.c (.int .i64 1))),qM 8 14])))))) (.seq (.seq (rR [7,25] [qM 22 0,qM 23 1,qM 24 2,oQ 25 (cF 62 [22,23,24])]) (.cond 25 (.seq (rR [6] [oQ 6 (.mov (.c (.int .i64 0)))]) .ret) .skip)) (.seq (rR [6] [qM 26 7,qM 6 26]) .ret)))))
theorem iP(hn:ab.length<=27)(h:SP Tryz.prog true ab bs iz [.slot 6] Q):AM.Sem Tryz.prog 165 ab bs Q:=
 oZ (keeps:=[(0,[0,1,2]),(1,[0,1,2,7]),(2,[0,1,2,7,8]),(3,[0,1,2,7,8,12]),(5,[0,1,2,7,8,21]),(6,[0,1,2,7,8]),(4,[0,1,2,7,8]),(7,[7,25]),(8,[6]),(9,[6])]) (solo:=[]) Tryz.func165 rfl hn h
def jT:RC:=
 (.seq (rR [1] [oQ 1 (.box 0),oQ 2 (.mov (.c (.int .i64 0))),oQ 3 (.mov (.c (.int .i64 0)))]) (.seq (.seq (rR [1,11] [qF 8 0 1,qL 9 8,oQ 10 (.len false 9),oQ 11 (.bin .gtr 10 (.c (.int .i64 30)))]) (.cond 11 (.seq (rR [2,3] [oQ 2 (.mov (.c (.int .i64 (-1)))),oQ 3 (.mov (.c (.int .i64 6)))]) .ret) .skip)) (.seq (.seq (rR [1,4] [oQ 4 (.mov (.c (.int .i64 0)))]) (.block 0 (.loop (.seq (.seq (rR [1,4,16] [qM 12 4,qF 13 0 1,qL 14 13,oQ 15 (.len false 14),oQ 16 (.bin .lss 12 15)]) (.cond 16 .skip (.exit 0))) (.seq (.block 1 (.seq (rR [1,4,5] [qF 19 0 1,qL 20 19,qM 21 4,qI 22 2 20 21,qA 23 2 22,oQ 5 (.box (.c (.agg [(.str ⟨⟨[]⟩⟩),(.int .i64 0)]))),oN (.store 2 5 23)]) (.block 2 (.seq (rR [1,4,5,24] [qF 25 0 5,qL 26 25,oQ 27 (cF 61 [26]),oQ 28 (.un .not 27),qM 24 28]) (.cond 24 (.seq (rR [2,3] [oQ 2 (.mov (.c (.int .i64 (-1)))),oQ 3 (.mov (.c (.int .i64 7)))])
 .ret) (.seq (rR [1,4,5,29] [qF 30 1 5,qL 31 30,oQ 32 (.bin .lss 31 (.c (.int .i64 0))),qM 33 32,oG 34 33 false (.aL 1 5),oG 35 33 false (.load false 1 34),oG 36 33 false (.bin .gtr 35 (.c (.int .i64 6))),oQ 37 (.pick 33 (.c (.bool true)) 36),qM 29 37]) (.cond 29 (.seq (rR [2,3] [oQ 2 (.mov (.c (.int .i64 (-1)))),oQ 3 (.mov (.c (.int .i64 9)))]) .ret) (.seq (.reg true [1,4,38] [qF 39 0 1,qL 40 39,oQ 41 (.take 4),oQ 42 (.slc 2 40 none (some 41) none),qF 43 0 5,qL 44 43,qF 45 1 5,qL 46 45,oQ 47 (cF 62 [42,44,46]),oQ 38 (.take 47)]) (.cond 38 (.seq (rR [2,3] [oQ 2 (.mov (.c (.int .i64 (-1)))),oQ 3 (.mov (.c (.int .i64 8)))]) .ret) .skip))))))))) (rR [1,4] [qM 17 4,oQ 18 (.bin .add 17 (.c (.int .i64 1))),qM 4 18])))))) (.seq (.seq (rR [1,51] [qF 48 1 1,qL 49 48,oQ 50 (.len false 49),oQ 51 (.bin .gtr 50 (.c (.int .i64 40)))]) (.cond 51 (.seq (rR [2,3] [
 oQ 2 (.mov (.c (.int .i64 (-1)))),oQ 3 (.mov (.c (.int .i64 6)))]) .ret) .skip)) (.seq (.seq (rR [1,6] [oQ 6 (.mov (.c (.int .i64 0)))]) (.block 3 (.loop (.seq (.seq (rR [1,6,56] [qM 52 6,qF 53 1 1,qL 54 53,oQ 55 (.len false 54),oQ 56 (.bin .lss 52 55)]) (.cond 56 .skip (.exit 3))) (.seq (.block 4 (.seq (.reg true [1,6,7] [qF 59 0 1,qL 60 59,qF 61 1 1,qL 62 61,oQ 63 (.take 6),qI 64 6 62 63,qA 65 6 64,oQ 66 (cF 63 [60,65]),oQ 7 (.take 66)]) (.seq (rR [1,6,7,68] [qM 67 7,oQ 68 (.bin .neq 67 (.c (.int .i64 0)))]) (.cond 68 (.seq (rR [2,3] [qM 69 6,qM 70 7,qM 2 69,qM 3 70]) .ret) .skip)))) (rR [1,6] [qM 57 6,oQ 58 (.bin .add 57 (.c (.int .i64 1))),qM 6 58])))))) (.seq (rR [2,3] [oQ 2 (.mov (.c (.int .i64 0))),oQ 3 (.mov (.c (.int .i64 0)))]) .ret))))))
theorem dJ(hn:ab.length<=71)(h:SP Tryz.prog true ab bs jT [.slot 2,.slot 3] Q):AM.Sem Tryz.prog 19 ab bs Q:=
 oZ (keeps:=[(0,[1]),(1,[1,11]),(2,[2,3]),(3,[1,4]),(4,[1,4,16]),(6,[1,4,5]),(7,[1,4,5,24]),(9,[1,4,5,29]),(11,[1,4,38]),(12,[2,3]),(10,[2,3]),(8,[2,3]),(5,[1,4]),(13,[1,51]),(14,[2,3]),(15,[1,6]),(16,[1,6,56]),(18,[1,6,7]),(19,[1,6,7,68]),(20,[2,3]),(17,[1,6]),(21,[2,3])]) (solo:=[]) Tryz.func19 rfl hn h
def jP:RC:=
 (.seq (rR [1] [oQ 1 (.box 0),oQ 2 (.mov (.c (.sl .full [])))]) (.seq (.reg true [2] [oQ 3 (.aM 2 []),qF 4 1 1,qL 5 4,oQ 6 (.append 2 3 5),qF 7 2 1,qL 8 7,oQ 9 (.append 2 6 8),oQ 2 (.take 9)]) .ret))
theorem j7(hn:ab.length<=10)(h:SP Tryz.prog true ab bs jP [.slot 2] Q):AM.Sem Tryz.prog 114 ab bs Q:=
 oZ (keeps:=[(0,[1]),(1,[2])]) (solo:=[]) Tryz.func114 rfl hn h
def jQ:RC:=
 (.seq (rR [1] [oQ 1 (.box 0),oQ 2 (.mov (.c (.sl .full [])))]) (.seq (.reg true [2] [oQ 3 (.aM 3 []),qF 4 3 1,qL 5 4,oQ 6 (.append 3 3 5),qF 7 4 1,qL 8 7,oQ 9 (.append 3 6 8),oQ 2 (.take 9)]) .ret))
theorem j8(hn:ab.length<=10)(h:SP Tryz.prog true ab bs jQ [.slot 2] Q):AM.Sem Tryz.prog 115 ab bs Q:=
 oZ (keeps:=[(0,[1]),(1,[2])]) (solo:=[]) Tryz.func115 rfl hn h
def gx:RC:=
 (.seq (rR [1] [oQ 1 (.box 0),oQ 2 (.mov (.c (.sl .full [])))]) (.seq (rR [1,3] [oQ 3 (.mov (.c (.sl .full [])))]) (.seq (rR [3,4] [qA 6 6 1,oQ 7 (cF 114 [6]),qM 4 7]) (.seq (.seq (rR [3,4,5] [oQ 5 (.mov (.c (.int .i64 0)))]) (.block 0 (.loop (.seq (.seq (rR [3,4,5,11] [qM 8 5,qM 9 4,oQ 10 (.len false 9),oQ 11 (.bin .lss 8 10)]) (.cond 11 .skip (.exit 0))) (.seq (.block 1 (rR [3,4,5] [qM 14 3,qM 15 4,qM 16 5,qI 17 2 15 16,qF 18 1 17,qL 19 18,oQ 20 (.append 4 14 19),qM 3 20])) (rR [3,4,5] [qM 12 5,oQ 13 (.bin .add 12 (.c (.int .i64 1))),qM 5 13])))))) (.seq (rR [2] [qM 21 3,oQ 22 (cF 164 [21]),qM 2 22]) .ret)))))
theorem gQ(hn:ab.length<=23)(h:SP Tryz.prog true ab bs gx [.slot 2] Q):AM.Sem Tryz.prog 168 ab bs Q:=
 oZ (keeps:=[(0,[1]),(1,[1,3]),(2,[3,4]),(3,[3,4,5]),(4,[3,4,5,11]),(6,[3,4,5]),(5,[3,4,5]),(7,[2])]) (solo:=[]) Tryz.func168 rfl hn h
def kR:RC:=
 (.seq (rR [1] [oQ 1 (.box 0),oQ 2 (.mov (.c (.sl .full [])))]) (.seq (rR [1,3] [oQ 3 (.mov (.c (.sl .full [])))]) (.seq (rR [1,3,4] [qA 8 6 1,oQ 9 (cF 114 [8]),qM 4 9]) (.seq (.seq (rR [1,3,4,5] [oQ 5 (.mov (.c (.int .i64 0)))]) (.block 0 (.loop (.seq (.seq (rR [1,3,4,5,13] [qM 10 5,qM 11 4,oQ 12 (.len false 11),oQ 13 (.bin .lss 10 12)]) (.cond 13 .skip (.exit 0))) (.seq (.block 1 (rR [1,3,4,5] [qM 16 3,qM 17 4,qM 18 5,qI 19 2 17 18,qF 20 1 19,qL 21 20,oQ 22 (.append 4 16 21),qM 3 22])) (rR [1,3,4,5] [qM 14 5,oQ 15 (.bin .add 14 (.c (.int .i64 1))),qM 5 15])))))) (.seq (rR [3,6] [qA 23 6 1,oQ 24 (cF 115 [23]),qM 6 24]) (.seq (.seq (rR [3,6,7] [oQ 7 (.mov (.c (.int .i64 0)))]) (.block 2 (.loop (.seq (.seq (rR [3,6,7,28] [qM 25 7,qM 26 6,oQ 27 (.len false 26),oQ 28 (.bin .lss 25 27)]) (.cond 28 .skip (.exit 2))) (.seq (.block 3 (rR [3,6,7] [
 qM 31 3,qM 32 6,qM 33 7,qI 34 3 32 33,qF 35 2 34,qL 36 35,oQ 37 (.append 4 31 36),qM 3 37])) (rR [3,6,7] [qM 29 7,oQ 30 (.bin .add 29 (.c (.int .i64 1))),qM 7 30])))))) (.seq (rR [2] [qM 38 3,oQ 39 (cF 164 [38]),qM 2 39]) .ret)))))))
theorem lf(hn:ab.length<=40)(h:SP Tryz.prog true ab bs kR [.slot 2] Q):AM.Sem Tryz.prog 117 ab bs Q:=
 oZ (keeps:=[(0,[1]),(1,[1,3]),(2,[1,3,4]),(3,[1,3,4,5]),(4,[1,3,4,5,13]),(6,[1,3,4,5]),(5,[1,3,4,5]),(7,[3,6]),(8,[3,6,7]),(9,[3,6,7,28]),(11,[3,6,7]),(10,[3,6,7]),(12,[2])]) (solo:=[]) Tryz.func117 rfl hn h
def kS:RC:=
 (.seq (rR [0] [oQ 2 (.mov (.c (.bool false)))]) (.seq (rR [2] [qM 3 0,oQ 4 (.bin .geq 3 (.c (.int .i64 5))),qM 5 4,oG 6 5 true (.mov 0),oG 7 5 true (.bin .leq 6 (.c (.int .i64 12))),oQ 8 (.pick 5 7 (.c (.bool false))),qM 2 8]) .ret))
theorem ef(hn:ab.length<=9)(h:SP Tryz.prog true ab bs kS [.slot 2] Q):AM.Sem Tryz.prog 167 ab bs Q:=
 oZ (keeps:=[(0,[0]),(1,[2])]) (solo:=[]) Tryz.func167 rfl hn h
def mO:RC:=
 (.seq (rR [0,1] [oQ 4 (.mov (.c (.bool false)))]) (.seq (.seq (rR [0,1,5] [oQ 5 (.mov (.c (.int .i64 0)))]) (.block 0 (.loop (.seq (.seq (rR [0,1,5,9] [qM 6 5,qM 7 0,oQ 8 (.len false 7),oQ 9 (.bin .lss 6 8)]) (.cond 9 .skip (.exit 0))) (.seq (.block 1 (.seq (rR [0,1,5,17] [qM 12 0,qM 13 5,qI 14 1 12 13,qL 15 14,qM 16 1,oQ 17 (.bin .eql 15 16)]) (.cond 17 (.seq (rR [4] [oQ 4 (.mov (.c (.bool true)))]) .ret) .skip))) (rR [0,1,5] [qM 10 5,oQ 11 (.bin .add 10 (.c (.int .i64 1))),qM 5 11])))))) (.seq (rR [4] [oQ 4 (.mov (.c (.bool false)))]) .ret)))
theorem mQ(hn:ab.length<=18)(h:SP Tryz.prog true ab bs mO [.slot 4] Q):AM.Sem Tryz.prog 170 ab bs Q:=
 oZ (keeps:=[(0,[0,1]),(1,[0,1,5]),(2,[0,1,5,9]),(4,[0,1,5,17]),(5,[4]),(3,[0,1,5]),(6,[4])]) (solo:=[]) Tryz.func170 rfl hn h
def fV:RC:=
 (.seq (rR [0,3] [oQ 3 (.box 1),oQ 4 (.mov (.c (.int .i64 0)))]) (.seq (rR [0,3,5] [qA 11 6 3,oQ 12 (cF 114 [11]),qM 5 12]) (.seq (rR [0,3,5,6] [qA 13 6 3,oQ 14 (cF 115 [13]),qM 6 14]) (.seq (.seq (rR [0,3,5,6,34] [qM 15 5,oQ 16 (.len false 15),oQ 17 (.bin .eql 16 (.c (.int .i64 0))),qM 18 17,oG 19 18 false (.mov 5),oG 20 18 false (.len false 19),oG 21 18 false (.bin .gtr 20 (.c (.int .i64 4))),oQ 22 (.pick 18 (.c (.bool true)) 21),qM 23 22,oG 24 23 false (.aL 3 3),oG 25 23 false (.load false 1 24),oG 26 23 false (.len false 25),oG 27 23 false (.bin .gtr 26 (.c (.int .i64 12))),oQ 28 (.pick 23 (.c (.bool true)) 27),qM 29 28,oG 30 29 false (.aL 4 3),oG 31 29 false (.load false 1 30),oG 32 29 false (.len false 31),oG 33 29 false (.bin .gtr 32 (.c (.int .i64 12))),oQ 34 (.pick 29 (.c (.bool true)) 33)]) (.cond 34 (.seq (rR [4] [oQ 4 (.mov (.c (.int .i64 6)))])
 .ret) .skip)) (.seq (.seq (rR [0,3,5,6,7] [oQ 7 (.mov (.c (.int .i64 0)))]) (.block 0 (.loop (.seq (.seq (rR [0,3,5,6,7,38] [qM 35 7,qM 36 5,oQ 37 (.len false 36),oQ 38 (.bin .lss 35 37)]) (.cond 38 .skip (.exit 0))) (.seq (.block 1 (.seq (rR [0,3,5,6,7,46] [qM 41 5,qM 42 7,qI 43 2 41 42,qA 44 2 43,oQ 45 (cF 75 [44]),oQ 46 (.un .not 45)]) (.cond 46 (.seq (rR [4] [oQ 4 (.mov (.c (.int .i64 2)))]) .ret) .skip))) (rR [0,3,5,6,7] [qM 39 7,oQ 40 (.bin .add 39 (.c (.int .i64 1))),qM 7 40])))))) (.seq (.seq (rR [0,3,6,8] [oQ 8 (.mov (.c (.int .i64 0)))]) (.block 2 (.loop (.seq (.seq (rR [0,3,6,8,50] [qM 47 8,qM 48 6,oQ 49 (.len false 48),oQ 50 (.bin .lss 47 49)]) (.cond 50 .skip (.exit 2))) (.seq (.block 3 (.seq (rR [0,3,6,8,58] [qM 53 6,qM 54 8,qI 55 3 53 54,qA 56 3 55,oQ 57 (cF 116 [56]),oQ 58 (.un .not 57)]) (.cond 58 (.seq (rR [4] [oQ 4 (.mov (.c (.int .i64 2)))])
 .ret) .skip))) (rR [0,3,6,8] [qM 51 8,oQ 52 (.bin .add 51 (.c (.int .i64 1))),qM 8 52])))))) (.seq (rR [0,3,9] [qA 59 6 3,oQ 60 (cF 117 [59]),qM 9 60]) (.seq (.seq (rR [0,3,9,10] [oQ 10 (.mov (.c (.int .i64 0)))]) (.block 4 (.loop (.seq (.seq (rR [0,3,9,10,64] [qM 61 10,qM 62 9,oQ 63 (.len false 62),oQ 64 (.bin .lss 61 63)]) (.cond 64 .skip (.exit 4))) (.seq (.block 5 (.seq (rR [0,3,9,10,72] [qM 67 9,qM 68 10,qI 69 1 67 68,qL 70 69,qM 71 10,oQ 72 (.bin .neq 70 71)]) (.cond 72 (.seq (rR [4] [oQ 4 (.mov (.c (.int .i64 2)))]) .ret) .skip))) (rR [0,3,9,10] [qM 65 10,oQ 66 (.bin .add 65 (.c (.int .i64 1))),qM 10 66])))))) (.seq (.seq (rR [0,3,77] [qF 73 5 3,qL 74 73,qM 75 9,oQ 76 (.len false 75),oQ 77 (.bin .neq 74 76)]) (.cond 77 (.seq (rR [4] [oQ 4 (.mov (.c (.int .i64 2)))]) .ret) .skip)) (.seq (.seq (rR [0,3,86] [qF 78 0 3,qL 79 78,oQ 80 (.bin .neq 79 (.c (.str ⟨⟨[]⟩⟩))),qM 81 80,oG 82 81 true (.aL 0 3),oG 83 81 true (.load false 1 82),oG 84 81 true (cF 61 [83]),oG 85 81 true (.un .not 84),oQ 86 (.pick 81 85 (.c (.bool false)))])
 (.cond 86 (.seq (rR [4] [oQ 4 (.mov (.c (.int .i64 7)))]) .ret) .skip)) (.seq (rR [4] [qM 87 0,qA 88 6 3,oQ 89 (cF 118 [87,88]),qM 4 89]) .ret)))))))))))
theorem cQ(hn:ab.length<=90)(h:SP Tryz.prog true ab bs fV [.slot 4] Q):AM.Sem Tryz.prog 63 ab bs Q:=
 oZ (keeps:=[(0,[0,3]),(1,[0,3,5]),(2,[0,3,5,6]),(3,[0,3,5,6,34]),(4,[4]),(5,[0,3,5,6,7]),(6,[0,3,5,6,7,38]),(8,[0,3,5,6,7,46]),(9,[4]),(7,[0,3,5,6,7]),(10,[0,3,6,8]),(11,[0,3,6,8,50]),(13,[0,3,6,8,58]),(14,[4]),(12,[0,3,6,8]),(15,[0,3,9]),(16,[0,3,9,10]),(17,[0,3,9,10,64]),(19,[0,3,9,10,72]),(20,[4]),(18,[0,3,9,10]),(21,[0,3,77]),(22,[4]),(23,[0,3,86]),(24,[4]),(25,[4])]) (solo:=[]) Tryz.func63 rfl hn h
def iy:RC:=
 (.seq (rR [0,3] [oQ 3 (.box 1),oQ 4 (.mov (.c (.int .i64 0)))]) (.seq (rR [0,3,5] [qA 15 6 3,oQ 16 (cF 114 [15]),qM 5 16]) (.seq (.seq (rR [0,3,5,6] [oQ 6 (.mov (.c (.int .i64 0)))]) (.block 0 (.loop (.seq (.seq (rR [0,3,5,6,20] [qM 17 6,qM 18 5,oQ 19 (.len false 18),oQ 20 (.bin .lss 17 19)]) (.cond 20 .skip (.exit 0))) (.seq (.block 1 (.seq (.reg true [0,3,5,6,7] [qM 23 0,qM 24 5,qM 25 6,qI 26 2 24 25,qF 27 0 26,qL 28 27,qM 29 5,qM 30 6,qI 31 2 29 30,qF 32 1 31,qL 33 32,oQ 34 (.len false 33),oQ 35 (cF 165 [23,28,34]),oQ 7 (.take 35)]) (.seq (rR [0,3,5,6,7,37] [qM 36 7,oQ 37 (.bin .neq 36 (.c (.int .i64 0)))]) (.cond 37 (.seq (rR [4] [qM 38 7,qM 4 38]) .ret) .skip)))) (rR [0,3,5,6] [qM 21 6,oQ 22 (.bin .add 21 (.c (.int .i64 1))),qM 6 22])))))) (.seq (rR [3,8] [qM 39 0,qA 40 6 3,oQ 41 (cF 115 [40]),oQ 42 (cF 166 [39,41]),qM 8 42])
 (.seq (.seq (rR [3,8,44] [qM 43 8,oQ 44 (.bin .neq 43 (.c (.int .i64 0)))]) (.cond 44 (.seq (rR [4] [qM 45 8,qM 4 45]) .ret) .skip)) (.seq (.seq (rR [3,9] [oQ 9 (.mov (.c (.int .i64 0)))]) (.block 2 (.loop (.seq (.seq (rR [3,9,50] [qM 46 9,qF 47 3 3,qL 48 47,oQ 49 (.len false 48),oQ 50 (.bin .lss 46 49)]) (.cond 50 .skip (.exit 2))) (.seq (.block 3 (.seq (rR [3,9,69] [qF 53 3 3,qL 54 53,qM 55 9,qI 56 3 54 55,qF 57 0 56,qL 58 57,oQ 59 (cF 167 [58]),oQ 60 (.un .not 59),qM 61 60,oG 62 61 true (.aL 3 3),oG 63 61 true (.load false 1 62),oG 64 61 true (.mov 9),oG 65 61 true (.idx 3 63 64),oG 66 61 true (.aL 0 65),oG 67 61 true (.load false 1 66),oG 68 61 true (.bin .neq 67 (.c (.int .i64 1))),oQ 69 (.pick 61 68 (.c (.bool false)))]) (.cond 69 (.seq (rR [4] [oQ 4 (.mov (.c (.int .i64 10)))]) .ret) .skip))) (rR [3,9] [qM 51 9,oQ 52 (.bin .add 51 (.c (.int .i64 1))),qM 9 52]))))))
 (.seq (.seq (rR [3,10] [oQ 10 (.mov (.c (.int .i64 0)))]) (.block 4 (.loop (.seq (.seq (rR [3,10,74] [qM 70 10,qF 71 4 3,qL 72 71,oQ 73 (.len false 72),oQ 74 (.bin .lss 70 73)]) (.cond 74 .skip (.exit 4))) (.seq (.block 5 (.seq (rR [3,10,83] [qF 77 4 3,qL 78 77,qM 79 10,qI 80 3 78 79,qF 81 0 80,qL 82 81,oQ 83 (cF 167 [82])]) (.cond 83 (.seq (rR [4] [oQ 4 (.mov (.c (.int .i64 10)))]) .ret) .skip))) (rR [3,10] [qM 75 10,oQ 76 (.bin .add 75 (.c (.int .i64 1))),qM 10 76])))))) (.seq (rR [3,11] [qA 84 6 3,oQ 85 (cF 168 [84]),qM 11 85]) (.seq (.seq (rR [3,11,12] [oQ 12 (.mov (.c (.int .i64 0)))]) (.block 6 (.loop (.seq (.seq (rR [3,11,12,90] [qM 86 12,qF 87 3 3,qL 88 87,oQ 89 (.len false 88),oQ 90 (.bin .lss 86 89)]) (.cond 90 .skip (.exit 6))) (.seq (.block 7 (.seq (rR [3,11,12,13] [qF 93 3 3,qL 94 93,qM 95 12,qI 96 3 94 95,qA 97 3 96,oQ 98 (cF 169 [97]),qM 13 98])
 (.seq (rR [3,11,12,13,14] [oQ 14 (.mov (.c (.int .i64 0)))]) (.block 8 (.loop (.seq (.seq (rR [3,11,12,13,14,102] [qM 99 14,qM 100 13,oQ 101 (.len false 100),oQ 102 (.bin .lss 99 101)]) (.cond 102 .skip (.exit 8))) (.seq (.block 9 (.seq (rR [3,11,12,13,14,111] [qM 105 11,qM 106 13,qM 107 14,qI 108 1 106 107,qL 109 108,oQ 110 (cF 170 [105,109]),oQ 111 (.un .not 110)]) (.cond 111 (.seq (rR [4] [oQ 4 (.mov (.c (.int .i64 17)))]) .ret) .skip))) (rR [3,11,12,13,14] [qM 103 14,oQ 104 (.bin .add 103 (.c (.int .i64 1))),qM 14 104])))))))) (rR [3,11,12] [qM 91 12,oQ 92 (.bin .add 91 (.c (.int .i64 1))),qM 12 92])))))) (.seq (rR [4] [oQ 4 (.mov (.c (.int .i64 0)))]) .ret))))))))))
theorem iO(hn:ab.length<=112)(h:SP Tryz.prog true ab bs iy [.slot 4] Q):AM.Sem Tryz.prog 118 ab bs Q:=
 oZ (keeps:=[(0,[0,3]),(1,[0,3,5]),(2,[0,3,5,6]),(3,[0,3,5,6,20]),(5,[0,3,5,6,7]),(6,[0,3,5,6,7,37]),(7,[4]),(4,[0,3,5,6]),(8,[3,8]),(9,[3,8,44]),(10,[4]),(11,[3,9]),(12,[3,9,50]),(14,[3,9,69]),(15,[4]),(13,[3,9]),(16,[3,10]),(17,[3,10,74]),(19,[3,10,83]),(20,[4]),(18,[3,10]),(21,[3,11]),(22,[3,11,12]),(23,[3,11,12,90]),(25,[3,11,12,13]),(26,[3,11,12,13,14]),(27,[3,11,12,13,14,102]),(29,[3,11,12,13,14,111]),(30,[4]),(28,[3,11,12,13,14]),(24,[3,11,12]),(31,[4])]) (solo:=[]) Tryz.func118 rfl hn h
def jR:RC:=
 (.seq (rR [0,1] [oQ 4 (.mov (.c (.int .i64 0)))]) (.seq (.seq (rR [0,1,5] [oQ 5 (.mov (.c (.int .i64 0)))]) (.block 0 (.loop (.seq (.seq (rR [0,1,5,10] [qM 7 5,qM 8 1,oQ 9 (.len false 8),oQ 10 (.bin .lss 7 9)]) (.cond 10 .skip (.exit 0))) (.seq (.block 1 (.seq (.seq (rR [0,1,5,18] [qM 13 1,qM 14 5,qI 15 3 13 14,qF 16 0 15,qL 17 16,oQ 18 (.bin .neq 17 (.c (.int .i64 0)))]) (.cond 18 (.exit 1) .skip)) (.seq (.reg true [0,1,5,6] [qM 19 0,qM 20 1,qM 21 5,qI 22 3 20 21,qF 23 1 22,qL 24 23,qM 25 1,qM 26 5,qI 27 3 25 26,qF 28 2 27,qL 29 28,oQ 30 (.len false 29),oQ 31 (cF 165 [19,24,30]),oQ 6 (.take 31)]) (.seq (rR [0,1,5,6,33] [qM 32 6,oQ 33 (.bin .neq 32 (.c (.int .i64 0)))]) (.cond 33 (.seq (rR [4] [qM 34 6,qM 4 34]) .ret) .skip))))) (rR [0,1,5] [qM 11 5,oQ 12 (.bin .add 11 (.c (.int .i64 1))),qM 5 12])))))) (.seq (rR [4] [oQ 4 (.mov (.c (.int .i64 0)))])
 .ret)))
theorem j9(hn:ab.length<=35)(h:SP Tryz.prog true ab bs jR [.slot 4] Q):AM.Sem Tryz.prog 166 ab bs Q:=
 oZ (keeps:=[(0,[0,1]),(1,[0,1,5]),(2,[0,1,5,10]),(4,[0,1,5,18]),(5,[0,1,5,6]),(6,[0,1,5,6,33]),(7,[4]),(3,[0,1,5]),(8,[4])]) (solo:=[]) Tryz.func166 rfl hn h
def uw:RC:=
 (.seq (rR [0] [oQ 2 (.mov (.c (.bool false)))]) (.seq (.seq (rR [0,8] [qM 6 0,oQ 7 (.len false 6),oQ 8 (.bin .gtr 7 (.c (.int .i64 500)))]) (.cond 8 (.seq (rR [2] [oQ 2 (.mov (.c (.bool false)))]) .ret) .skip)) (.seq (rR [0,3] [oQ 3 (.mov (.c (.int .i64 0)))]) (.seq (.seq (rR [3,9,10,11] [qM 9 0,oQ 10 (.len false 9),oQ 11 (.mov (.c (.int .i64 0)))]) (.block 0 (.loop (.seq (rR [3,9,10,11,12] [oQ 12 (.bin .lss 11 10)]) (.seq (.cond 12 .skip (.exit 0)) (.seq (.block 1 (.seq (rR [3,5,9,10,11] [qI 13 3 9 11,qA 14 3 13,oQ 5 (.box (.c (.agg [(.int .i64 0),(.str ⟨⟨[]⟩⟩),(.sl .full [])]))),oN (.store 3 5 14)]) (.seq (.seq (rR [5,9,10,11,24] [qF 15 0 5,qL 16 15,qM 17 3,oQ 18 (.bin .leq 16 17),qM 19 18,oG 20 19 false (.aL 1 5),oG 21 19 false (.load true 2 20),oG 22 19 false (cF 49 [21]),oG 23 19 false (.un .not 22),oQ 24 (.pick 19 (.c (.bool true)) 23)])
 (.cond 24 (.seq (rR [2] [oQ 2 (.mov (.c (.bool false)))]) .ret) .skip)) (rR [3,9,10,11] [qF 25 0 5,qL 26 25,qM 3 26])))) (rR [3,9,10,11] [oQ 27 (.bin .add 11 (.c (.int .i64 1))),qM 11 27]))))))) (.seq (rR [2] [oQ 2 (.mov (.c (.bool true)))]) .ret)))))
theorem nw(hn:ab.length<=28)(h:SP Tryz.prog true ab bs uw [.slot 2] Q):AM.Sem Tryz.prog 40 ab bs Q:=
 oZ (keeps:=[(0,[0]),(1,[0,8]),(2,[2]),(3,[0,3]),(4,[3,9,10,11]),(5,[3,9,10,11,12]),(6,[3,5,9,10,11]),(7,[5,9,10,11,24]),(8,[2]),(9,[3,9,10,11]),(10,[3,9,10,11]),(11,[2])]) (solo:=[]) Tryz.func40 rfl hn h
end Go.CK
namespace Go.CK
open Go.AM Go.Proofs
def C2(n:ByteArray)(a:Int)(d:Dc):Bool:=decide (d.name=n)&&decide (d.arity=a)
def vU(ds:List Dc)(n:ByteArray)(a:Int):Bool:=ds.any (C2 n a)
theorem sY{ds:List Dc}{n:ByteArray}{a:Int}(k:ds.length<=10000000):Fun Tryz.prog 62 [slA Dc.av ds,.str n,.int .i64 a] (.bool (vU ds n a)):=by
 refine Fun.of (gR (by simp) ?_) rfl rfl
 conv=>whnf
 skip;refine ax.count (fb:=true) (ds.length) (λd j=>d.bD [(7,.int .i64 j)]) (λj=>∀i x,i<j->ds[i]? =some x->C2 n a x=false) ?_ ?_ (λj h b=>?_) (λb=>?_)
 .exact ch
 .exact aN
 .obtain ⟨y,e⟩:∃y,ds[j]? =some y:=⟨_,zA h⟩
  by_cases g:y.name=n
  .by_cases f:y.arity=a
   .have c:C2 n a y=true:=by simp[C2,g,f]
    conv=>whnf
    repeat' (first|refine gC (gD (cI ?_))|refine gL (.map ?_)|refine gI (gM (iE ?_))|refine ag.nrm ?_)<;>conv=>whnf
    rw[show vU ds n a=true from List.any_eq_true.2 ⟨y,zE e,c⟩]
   .have c:C2 n a y=false:=by simp[C2,f]
    conv=>whnf
    repeat' (first|(refine gC ?_;(refine gD ?_;first|refine cI ?_|refine cJ ?_))|refine gW (wI ?_)|refine gL (.map ?_)|refine gI (gM (iE ?_)))<;>conv=>whnf
    refine⟨bM b e c,?_⟩;exact aN
  .have c:C2 n a y=false:=by simp[C2,g]
   conv=>whnf
   repeat' (first|(refine gC ?_;first|refine cN ?_|(refine gD ?_;first|refine cI ?_|refine cJ ?_))|refine gW (wI ?_)|refine gL (.map ?_)|refine gI (gM (iE ?_)))<;>conv=>whnf
   refine⟨bM b e c,?_⟩;exact aN
 .conv=>whnf
  repeat' (first|refine gC (gD (cJ ?_))|refine gL (.map ?_)|refine ag.nrm ?_)<;>conv=>whnf
  rw[show vU ds n a=false from BC b]
def sZ(ds:List Dc)(n:ByteArray)(a:Int):Int:=if vU ds n a then 0 else if ds.any λd=>decide (d.name=n) then 9 else 7
theorem vT{ds:List Dc}{n:ByteArray}{a:Int}(i:ds.length<=10000000):Fun Tryz.prog 165 [slA Dc.av ds,.str n,.int .i64 a] (.int .i64 (sZ ds n a)):=by
 have b:=sY (n:=n) (a:=a) i;refine Fun.of (iP (by simp) ?_) rfl rfl
 conv=>whnf
 skip;refine ax.count (fb:=true) (ds.length) (λc j=>c.bD [(7,.int .i64 (if (ds.take j).any λd=>decide (d.name=n) then 9 else 7)),(8,.int .i64 j)]) (λj=>True) ?_ ?_ (λj f e=>?_) (λe=>?_)
 .trivial
 .refine al.at_ ?_ rfl
  conv=>whnf
  refine And.intro ?_ ?_<;>conv=>whnf
  all_goals repeat' (first|(refine gV ?_;first|refine vE ?_|refine vI ?_|(refine WkN.norm ?_ ?_;(focus (simp[AV.norm,AV.ay,];done))))|exact True.intro)<;>conv=>whnf
 .obtain ⟨y,h⟩:∃y,ds[j]? =some y:=⟨_,zA f⟩
  have hs:ds.take (j+1)=ds.take j++[y]:=by
   rw[List.take_succ_eq_append_getElem f,(zB.1 h).2]
  by_cases g:y.name=n
  .conv=>whnf
   repeat' (first|refine gC (gD (cI ?_))|refine gW (wI ?_)|refine gL (.map ?_)|refine gI (gM (iE ?_)))<;>conv=>whnf
   refine⟨trivial,?_⟩;refine al.at_ ?_ rfl
   conv=>whnf
   refine And.intro ?_ ?_<;>conv=>whnf
   all_goals repeat' (first|(refine gV ?_;first|refine vE ?_|refine vI ?_|(refine WkN.norm ?_ ?_;(focus (simp[AV.norm,AV.ay,hs,g];done))))|exact True.intro)<;>conv=>whnf
  .conv=>whnf
   repeat' (first|(refine gC ?_;(refine gD ?_;first|refine cI ?_|refine cJ ?_))|refine gW (wI ?_)|refine gL (.map ?_)|refine gI (gM (iE ?_)))<;>conv=>whnf
   refine⟨trivial,?_⟩;refine al.at_ ?_ rfl
   conv=>whnf
   refine And.intro ?_ ?_<;>conv=>whnf
   all_goals repeat' (first|(refine gV ?_;first|refine vE ?_|refine vI ?_|(refine WkN.norm ?_ ?_;(focus (simp[AV.norm,AV.ay,hs,g];done))))|exact True.intro)<;>conv=>whnf
 .rw [zz];unfold sZ
  cases hb:vU ds n a with
  |true=>
   rw[hb] at b
   conv=>whnf
   repeat' (first|refine gF (ae.fn (b) ?_)|(refine gC ?_;first|refine cY ?_|refine gD (cJ ?_))|refine gL (.map ?_)|refine ag.nrm ?_)<;>conv=>whnf
   rfl
  |false=>
   rw[hb] at b
   conv=>whnf
   repeat' (first|refine gF (ae.fn (b) ?_)|(refine gC ?_;first|refine cN ?_|refine gD (cJ ?_))|refine gL (.map ?_)|refine ag.nrm ?_)<;>conv=>whnf
   rfl
theorem i6{x:Rl}(b:x.keep.length<=10000000)(a:x.remove.length<=10000000):Fun Tryz.prog 114 [x.av] (slA At.av x.ai):=by
 refine Fun.of (j7 (by simp) ?_) rfl rfl
 conv=>whnf
 repeat' (first|refine gN (nS ?_)|refine ag.nrm ?_)<;>conv=>whnf
 all_goals (simp[Rl.ai,slA])
def Rl.goals(x:Rl):List Gl:=x.guard++x.body
theorem ja{x:Rl}(b:x.guard.length<=10000000)(a:x.body.length<=10000000):Fun Tryz.prog 115 [x.av] (slA Gl.av x.goals):=by
 refine Fun.of (j8 (by simp) ?_) rfl rfl
 conv=>whnf
 repeat' (first|refine gN (nS ?_)|refine ag.nrm ?_)<;>conv=>whnf
 all_goals (simp[Rl.goals,slA])
theorem xr(op:Int):Fun Tryz.prog 167 [.int .i64 op] (.bool (decide (5<=op)&&decide (op<=12))):=by
 by_cases h:5<=op
 .rw [decide_eq_true h];refine Fun.of (ef (by simp) ?_) rfl rfl
  conv=>whnf
  repeat' (first|refine gC (gD (cI ?_))|refine ag.nrm ?_)<;>conv=>whnf
  all_goals rfl
 .rw [decide_eq_false h];refine Fun.of (ef (by simp) ?_) rfl rfl
  conv=>whnf
  repeat' (first|refine gC (gD (cJ ?_))|refine ag.nrm ?_)<;>conv=>whnf
  all_goals rfl
theorem Mr{l:List Int}{n:Int}(g:l.length<=100000000):Fun Tryz.prog 170 [slA aG l,.int .i64 n] (.bool (decide (n∈l))):=by
 rw[<-BD];refine Fun.of (mQ (by simp) ?_) rfl rfl
 conv=>whnf
 skip;refine ax.count (fb:=true) (l.length) (λb j=>b.bD [(5,.int .i64 j)]) (λj=>∀i x,i<j->l[i]? =some x->isI n x=false) ?_ ?_ (λj d a=>?_) (λa=>?_)
 .exact ch
 .exact aN
 .obtain ⟨y,c⟩:∃y,l[j]? =some y:=⟨_,zA d⟩
  conv=>whnf
  repeat' (first|(refine gC ?_;first|refine gD (cI ?_)|refine ak.dec (λe=>?_) (λe=>?_))|refine gW (wI ?_)|refine gL (.map ?_)|refine gI (gM (iE ?_))|refine ag.nrm ?_)<;>conv=>whnf
  .have f:isI n y=true:=by simp only[isI];exact decide_eq_true (Eq.symm (by assumption))
   rw[show l.any (isI n)=true from List.any_eq_true.2 ⟨y,zE c,f⟩]
  .refine ⟨bM a c (by simp only[isI];exact decide_eq_false (Ne.symm (by assumption))),?_⟩
   exact aN
 .conv=>whnf
  repeat' (first|refine gC (gD (cJ ?_))|refine gL (.map ?_)|refine ag.nrm ?_)<;>conv=>whnf
  rw[BC a]
end Go.CK
