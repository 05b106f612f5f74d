/-
  Texts of this bj joined (wip/gen/bundle.py),those declarations only that are needed:IxR IxB. By an AI agent.
-/
import Derived.Test.YtcjfkbdbcgmomaaGreatDoorBba
set_option linter.unusedSimpArgs false
set_option linter.unusedVariables false
set_option maxRecDepth 100000
namespace Go.CK
open Go.AM Go.Proofs
theorem mR:∀{l:List Tm} {x:Tm},x∈l->x.nodes<=Tm.bp l
 |y::l,x,h=>by
  simp only[Tm.bp];rcases zI.1 h with rfl|h
  .omega
  .have:=mR h;omega
theorem Cd:∀{l:List Tm} {x:Tm},x∈l->x.sz<=Tm.szs l
 |y::l,x,hm=>by
  simp only[Tm.szs];rcases zI.1 hm with rfl|hm
  .omega
  .have:=Cd hm;omega
theorem Tm.C7(t:Tm):1<=t.nodes:=by
 cases t;simp only[Tm.nodes];omega
theorem gJ:∀(l:List Tm),l.length<=Tm.bp l
 |[]=>zJ _
 |t::r=>by have:=gJ r;have:=t.C7;simp only[Tm.bp,zX];omega
open Go.AM Go.Proofs
mutual
theorem D1:∀t:Tm,t.sz<=t.nodes
 |.mk k n s l=>by
  have:=mN l;simp only[Tm.sz,Tm.nodes];split<;>omega
theorem mN:∀l:List Tm,Tm.szs l<=Tm.bp l
 |[]=>zG _
 |t::r=>by
  have:=D1 t;have:=mN r;simp only[Tm.szs,Tm.bp];omega
end
mutual
theorem Dr:∀t:Tm,t.dep<=t.nodes
 |.mk k n s l=>by
  have:=nU l;simp only[Tm.dep,Tm.nodes];split<;>omega
theorem nU:∀l:List Tm,Tm.lK l<=Tm.bp l
 |[]=>zG _
 |t::r=>by
  have:=Dr t;have:=nU r;simp only[Tm.lK,Tm.bp];omega
end
theorem xA(t:Tm):t.nodes<=1000000000->Fun Tryz.prog 185 [t.avw] (.int .i64 (t.sz:Int)):=by
 induction t using Tm.dO with
 |h k i s l ih=>
 intro hN;generalize ha:Tm.mk k i s l=t at hN|-;replace ih:∀x∈t.args,x.nodes<=1000000000->Fun Tryz.prog 185 [x.avw] (.int .i64 (x.sz:Int)):=by subst ha;exact ih
 have hnl:Tm.bp t.args+1<=t.nodes:=by subst ha;simp only[Tm.nodes,Tm.args];omega
 clear ha
 have hsz:t.sz=1+Tm.szs t.use:=by
  unfold Tm.use
  by_cases h2:t.kind=2
  .rw [if_pos h2,GX h2]
  .rw [if_neg h2,FJ h2];rfl
 have huse:∀x∈t.use,x∈t.args:=λx hx=>by unfold Tm.use at hx;split at hx;exact hx;cases hx
 have hul:Tm.bp t.use<=Tm.bp t.args:=by unfold Tm.use;split;exact zG _;exact zJ _
 have hlen:=gJ t.use;have hszn:=mN t.use;rw[hsz];refine Fun.of (kf (by simp) ?_) rfl rfl
 conv=>whnf
 repeat' refine gF (ag.fn (gj) ?_)<;>conv=>whnf
 refine az.by (fb:=true) (λ_ (j:Nat)=>⟨[(3,.int .i64 ((1+Tm.szs (t.use.take j):Nat):Int)),(4,.sl .no (t.use.map Tm.av)),(5,.int .i64 (j:Int))],[],0⟩) (λj=>j<=t.use.length) (λj=>t.use.length-j) 0 (zJ _) ?_ ?_
 .rw [ZK];refine aq.lay [] oko ?_
  conv=>whnf
  refine aq.at_ ?_ rfl
  conv=>whnf
  refine And.intro ?_ ?_<;>conv=>whnf
  all_goals repeat' (first|(refine gV ?_;first|refine vE ?_|refine vI ?_|(refine WkN.norm ?_ ?_;(focus (simp[AV.norm,AV.aj,Tm.szs,Tm.lK];done))))|exact True.intro)<;>conv=>whnf
 .rintro j q1
  by_cases hj:j<t.use.length
  .obtain ⟨x,hx⟩:∃x,t.use[j]? =some x:=⟨_,zA hj⟩;have htk:t.use.take (j+1)=t.use.take j++[x]:=by rw[ZC,hx];rfl
   have hst:=rH t.use hx;have hm:=mR (zE hx);have hcall:=ih x (huse x (zE hx)) (by omega)
   conv=>whnf
   repeat' (first|refine gF (ag.fn (hcall) ?_)|refine gC (gD (cI ?_))|refine gW (wI ?_)|refine gL (.map ?_)|refine gI (gT (iA ?_)))<;>conv=>whnf
   refine⟨j+1,⟨hj,by omega⟩,?_⟩
   rw[htk,rI];exact bq
  .obtain rfl:j=t.use.length:=by omega
   rw[zl (zG _)]
   conv=>whnf
   repeat' (first|refine gC (gD (cJ ?_))|refine gL (.map ?_)|refine ak.nrm ?_)<;>conv=>whnf
theorem Dq(t:Tm):t.nodes<=1000000000->Fun Tryz.prog 211 [t.avw] (.int .i64 (t.dep:Int)):=by
 induction t using Tm.dO with
 |h k i s l ih=>
 intro hN;generalize ha:Tm.mk k i s l=t at hN|-;replace ih:∀x∈t.args,x.nodes<=1000000000->Fun Tryz.prog 211 [x.avw] (.int .i64 (x.dep:Int)):=by subst ha;exact ih
 have hnl:Tm.bp t.args+1<=t.nodes:=by subst ha;simp only[Tm.nodes,Tm.args];omega
 clear ha
 have hsz:t.dep=Tm.lK t.use+1:=by
  unfold Tm.use
  by_cases h2:t.kind=2
  .rw [if_pos h2,Gu h2]
  .rw [if_neg h2,Fi h2];rfl
 have huse:∀x∈t.use,x∈t.args:=λx hx=>by unfold Tm.use at hx;split at hx;exact hx;cases hx
 have hul:Tm.bp t.use<=Tm.bp t.args:=by unfold Tm.use;split;exact zG _;exact zJ _
 have hlen:=gJ t.use;have hdn:Tm.lK t.use<=Tm.bp t.use:=nU t.use;rw[hsz];refine Fun.of (jE (by simp) ?_) rfl rfl
 conv=>whnf
 repeat' refine gF (ag.fn (gj) ?_)<;>conv=>whnf
 refine az.by (fb:=true) (λ_ (j:Nat)=>⟨[(3,.int .i64 ((Tm.lK (t.use.take j):Nat):Int)),(4,.sl .no (t.use.map Tm.av)),(5,.int .i64 (j:Int))],[],0⟩) (λj=>j<=t.use.length) (λj=>t.use.length-j) 0 (zJ _) ?_ ?_
 .rw [ZK];refine aq.lay [] oko ?_
  conv=>whnf
  refine aq.at_ ?_ rfl
  conv=>whnf
  refine And.intro ?_ ?_<;>conv=>whnf
  all_goals repeat' (first|(refine gV ?_;first|refine vE ?_|refine vI ?_|(refine WkN.norm ?_ ?_;(focus (simp[AV.norm,AV.aj,Tm.szs,Tm.lK];done))))|exact True.intro)<;>conv=>whnf
 .rintro j q1
  by_cases hj:j<t.use.length
  .obtain ⟨x,hx⟩:∃x,t.use[j]? =some x:=⟨_,zA hj⟩;have htk:t.use.take (j+1)=t.use.take j++[x]:=by rw[ZC,hx];rfl
   have hm:=mR (zE hx);have hcall:=ih x (huse x (zE hx)) (by omega)
   conv=>whnf
   repeat' (first|refine gF (ag.fn (hcall) ?_)|refine gC (gD (cI ?_))|refine gW (wI ?_)|refine gL (.map ?_)|refine gI (gT (iA ?_)))<;>conv=>whnf
   refine⟨j+1,⟨hj,by omega⟩,?_⟩
   rw[htk,vw];exact bq
  .obtain rfl:j=t.use.length:=by omega
   rw[zl (zG _)]
   conv=>whnf
   repeat' (first|refine gC (gD (cJ ?_))|refine gW (wI ?_)|refine gL (.map ?_)|refine ak.nrm ?_)<;>conv=>whnf
   rfl
theorem mm{l:List Tm}{x:Tm}(h:x∈l)(hf:x.form=false):Tm.fA l=false:=by
 rw[Bool.eq_false_iff];intro e;rw[vl e h] at hf;cases hf
set_option maxHeartbeats 1000000 in
theorem E5(t:Tm):Fun Tryz.prog 210 [t.avw] (.bool t.form):=by
 induction t using Tm.dO with
 |h k i s l ih=>
 generalize ha:Tm.mk k i s l=t;replace ih:∀x∈t.args,Fun Tryz.prog 210 [x.avw] (.bool x.form):=by subst ha;exact ih
 clear ha;refine Fun.assume rfl λhg0=>?_;have hg:=(re (hg0 t.avw (by simp))).2.1
 by_cases hk2:t.kind=2
 .rw [HA hk2];have hoo:=Eu t.name;have hro:=mQ t.name
  by_cases h3:t.num=0
  rotate_left
  .rw [decide_eq_false (λe=>h3 e.1),zw];cases hop:nj t.name<;>rw[hop] at hoo
   all_goals
    refine Fun.of (aD (by simp) ?_) rfl rfl
    conv=>whnf
    repeat' (first|refine gF (ag.fn (hoo) ?_)|(refine gC ?_;first|refine cY ?_|refine cN ?_|refine .not ?_|(refine gD ?_;first|refine cI ?_|refine cJ ?_))|refine gL (.map ?_)|refine ak.nrm ?_)<;>conv=>whnf
    try rfl
  by_cases h6:t.args.length<=6
  .rw [decide_eq_true (show t.num=0/\t.args.length<=6 from ⟨h3,h6⟩),za]
   by_cases hol:nj t.name=true/\t.args.length=2
   .obtain ⟨hop,h2⟩:=hol;rw[hop,decide_eq_true h2,za,Bool.or_true,za];rw[hop] at hoo;refine Fun.of (aD (by simp) ?_) rfl rfl
    conv=>whnf
    repeat' (first|refine gF (ag.fn (hoo) ?_)|(refine gC ?_;first|refine cY ?_|refine cN ?_|refine .not ?_|(refine gD ?_;first|refine cI ?_|refine cJ ?_))|refine gL (.map ?_))<;>conv=>whnf
    refine az.by (fb:=true) (λ_ (j:Nat)=>⟨[(1,.ptr 0 0),(4,.int .i64 (j:Int))],[.cells [.int .i64 t.kind,.int .i64 t.num,.str t.name,.sl .no (t.args.map Tm.av)]],0⟩) (λj=>j<=t.args.length/\Tm.fA (t.args.take j)=true) (λj=>t.args.length-j) 0 ⟨zJ _,rfl⟩ ?_ ?_
    .exact bq
    .rintro j ⟨q1,q2⟩
     by_cases hj:j<t.args.length
     .obtain ⟨x,hx⟩:∃x,t.args[j]? =some x:=⟨_,zA hj⟩;have htk:t.args.take (j+1)=t.args.take j++[x]:=by rw[ZC,hx];rfl
      have hcall:=ih x (zE hx)
      cases hxf:x.form with
      |false=>
       rw[hxf] at hcall
       conv=>whnf
       repeat' (first|refine gF (ag.fn (hcall) ?_)|(refine gC ?_;first|refine cN ?_|refine .not ?_|refine gD (cI ?_))|refine gL (.map ?_)|refine gI (gT (iA ?_))|refine ak.nrm ?_)<;>conv=>whnf
       exact congrArg AV.bool (mm (zE hx) hxf).symm
      |true=>
       rw[hxf] at hcall
       conv=>whnf
       repeat' (first|refine gF (ag.fn (hcall) ?_)|(refine gC ?_;first|refine cY ?_|refine .not ?_|refine gD (cI ?_))|refine gW (wI ?_)|refine gL (.map ?_)|refine gI (gT (iA ?_)))<;>conv=>whnf
       refine⟨j+1,⟨⟨hj,by rw[htk,ld,q2,hxf];rfl⟩,by omega⟩,?_⟩
       exact bq
     .obtain rfl:j=t.args.length:=by omega
      rw[zl (zG _)] at q2
      conv=>whnf
      repeat' (first|refine gC (gD (cJ ?_))|refine gL (.map ?_)|refine ak.nrm ?_)<;>conv=>whnf
      exact congrArg AV.bool q2.symm
   .have hob:(nj t.name&&decide (t.args.length=2))=false:=by
     rw[Bool.eq_false_iff];intro e;rw[zD,decide_eq_true_eq] at e;exact hol e
    rw[hob,Bool.or_false]
    cases hnr:ek t.name with
    |false=>
     rw[hnr] at hro;rw[zw]
     cases hop:nj t.name with
     |false=>
      rw[hop] at hoo;refine Fun.of (aD (by simp) ?_) rfl rfl
      conv=>whnf
      repeat' (first|(refine gF ?_;first|refine ag.fn (hoo) ?_|refine ag.fn (hro) ?_)|(refine gC ?_;first|refine cY ?_|refine cN ?_|refine .not ?_|(refine gD ?_;first|refine cI ?_|refine cJ ?_))|refine ak.nrm ?_)<;>conv=>whnf
     |true=>
      rw[hop] at hoo;have h2:¬t.args.length=2:=λe=>hol ⟨hop,e⟩;refine Fun.of (aD (by simp) ?_) rfl rfl
      conv=>whnf
      repeat' (first|(refine gF ?_;first|refine ag.fn (hoo) ?_|refine ag.fn (hro) ?_)|(refine gC ?_;first|refine cY ?_|refine cN ?_|refine .not ?_|(refine gD ?_;first|refine cI ?_|refine cJ ?_))|refine gL (.map ?_)|refine ak.nrm ?_)<;>conv=>whnf
    |true=>
     rw[hnr] at hro;rw[za]
     cases hop:nj t.name with
     |false=>
      rw[hop] at hoo;refine Fun.of (aD (by simp) ?_) rfl rfl
      conv=>whnf
      repeat' (first|(refine gF ?_;first|refine ag.fn (hoo) ?_|refine ag.fn (hro) ?_)|(refine gC ?_;first|refine cY ?_|refine cN ?_|refine .not ?_|(refine gD ?_;first|refine cI ?_|refine cJ ?_))|refine gL (.map ?_))<;>conv=>whnf
      refine az.by (fb:=true) (λ_ (j:Nat)=>⟨[(1,.ptr 0 0),(4,.int .i64 (j:Int))],[.cells [.int .i64 t.kind,.int .i64 t.num,.str t.name,.sl .no (t.args.map Tm.av)]],0⟩) (λj=>j<=t.args.length/\Tm.fA (t.args.take j)=true) (λj=>t.args.length-j) 0 ⟨zJ _,rfl⟩ ?_ ?_
      .exact bq
      .rintro j ⟨q1,q2⟩
       by_cases hj:j<t.args.length
       .obtain ⟨x,hx⟩:∃x,t.args[j]? =some x:=⟨_,zA hj⟩;have htk:t.args.take (j+1)=t.args.take j++[x]:=by rw[ZC,hx];rfl
        have hcall:=ih x (zE hx)
        cases hxf:x.form with
        |false=>
         rw[hxf] at hcall
         conv=>whnf
         repeat' (first|refine gF (ag.fn (hcall) ?_)|(refine gC ?_;first|refine cN ?_|refine .not ?_|refine gD (cI ?_))|refine gL (.map ?_)|refine gI (gT (iA ?_))|refine ak.nrm ?_)<;>conv=>whnf
         exact congrArg AV.bool (mm (zE hx) hxf).symm
        |true=>
         rw[hxf] at hcall
         conv=>whnf
         repeat' (first|refine gF (ag.fn (hcall) ?_)|(refine gC ?_;first|refine cY ?_|refine .not ?_|refine gD (cI ?_))|refine gW (wI ?_)|refine gL (.map ?_)|refine gI (gT (iA ?_)))<;>conv=>whnf
         refine⟨j+1,⟨⟨hj,by rw[htk,ld,q2,hxf];rfl⟩,by omega⟩,?_⟩
         exact bq
       .obtain rfl:j=t.args.length:=by omega
        rw[zl (zG _)] at q2
        conv=>whnf
        repeat' (first|refine gC (gD (cJ ?_))|refine gL (.map ?_)|refine ak.nrm ?_)<;>conv=>whnf
        exact congrArg AV.bool q2.symm
     |true=>
      rw[hop] at hoo;have h2:¬t.args.length=2:=λe=>hol ⟨hop,e⟩;refine Fun.of (aD (by simp) ?_) rfl rfl
      conv=>whnf
      repeat' (first|(refine gF ?_;first|refine ag.fn (hoo) ?_|refine ag.fn (hro) ?_)|(refine gC ?_;first|refine cY ?_|refine .not ?_|(refine gD ?_;first|refine cI ?_|refine cJ ?_))|refine gL (.map ?_))<;>conv=>whnf
      refine az.by (fb:=true) (λ_ (j:Nat)=>⟨[(1,.ptr 0 0),(4,.int .i64 (j:Int))],[.cells [.int .i64 t.kind,.int .i64 t.num,.str t.name,.sl .no (t.args.map Tm.av)]],0⟩) (λj=>j<=t.args.length/\Tm.fA (t.args.take j)=true) (λj=>t.args.length-j) 0 ⟨zJ _,rfl⟩ ?_ ?_
      .exact bq
      .rintro j ⟨q1,q2⟩
       by_cases hj:j<t.args.length
       .obtain ⟨x,hx⟩:∃x,t.args[j]? =some x:=⟨_,zA hj⟩;have htk:t.args.take (j+1)=t.args.take j++[x]:=by rw[ZC,hx];rfl
        have hcall:=ih x (zE hx)
        cases hxf:x.form with
        |false=>
         rw[hxf] at hcall
         conv=>whnf
         repeat' (first|refine gF (ag.fn (hcall) ?_)|(refine gC ?_;first|refine cN ?_|refine .not ?_|refine gD (cI ?_))|refine gL (.map ?_)|refine gI (gT (iA ?_))|refine ak.nrm ?_)<;>conv=>whnf
         exact congrArg AV.bool (mm (zE hx) hxf).symm
        |true=>
         rw[hxf] at hcall
         conv=>whnf
         repeat' (first|refine gF (ag.fn (hcall) ?_)|(refine gC ?_;first|refine cY ?_|refine .not ?_|refine gD (cI ?_))|refine gW (wI ?_)|refine gL (.map ?_)|refine gI (gT (iA ?_)))<;>conv=>whnf
         refine⟨j+1,⟨⟨hj,by rw[htk,ld,q2,hxf];rfl⟩,by omega⟩,?_⟩
         exact bq
       .obtain rfl:j=t.args.length:=by omega
        rw[zl (zG _)] at q2
        conv=>whnf
        repeat' (first|refine gC (gD (cJ ?_))|refine gL (.map ?_)|refine ak.nrm ?_)<;>conv=>whnf
        exact congrArg AV.bool q2.symm
  .rw [decide_eq_false (λe=>h6 e.2),zw];have h2:¬t.args.length=2:=by omega
   cases hnr:ek t.name<;>rw[hnr] at hro<;>cases hop:nj t.name<;>rw[hop] at hoo
   all_goals
    refine Fun.of (aD (by simp) ?_) rfl rfl
    conv=>whnf
    repeat' (first|(refine gF ?_;first|refine ag.fn (hoo) ?_|refine ag.fn (hro) ?_)|(refine gC ?_;first|refine cY ?_|refine cN ?_|refine .not ?_|(refine gD ?_;first|refine cI ?_|refine cJ ?_))|refine gL (.map ?_)|refine ak.nrm ?_)<;>conv=>whnf
    try rfl
 .by_cases hk0:t.kind=0
  .rw [HC hk0];refine Fun.of (aD (by simp) ?_) rfl rfl
   conv=>whnf
   repeat' (first|(refine gC ?_;first|refine cN ?_|(refine gD ?_;first|refine cI ?_|refine cJ ?_)|refine ae.le (λhc=>?_) (λhc=>?_)|refine ae.dec (λhc=>?_) (λhc=>?_))|refine gL (.map ?_)|refine ak.nrm ?_)<;>conv=>whnf
   all_goals
    refine congrArg AV.bool ?_;symm
    first
     |(rw[decide_eq_decide];exact⟨λh=>by omega,λh=>⟨by omega,by omega,by assumption,by omega⟩⟩)
     |(rw[decide_eq_decide];exact⟨λ⟨_,_,_,h⟩=>by omega,λh=>⟨by omega,by omega,by assumption,by omega⟩⟩)
     |(rw[decide_eq_false_iff_not];rintro⟨e1,e2,e3,e4⟩;first|omega|contradiction)
     |(rw[decide_eq_true_iff];exact⟨by omega,by omega,by assumption,by omega⟩)
  .by_cases hk1:t.kind=1
   .rw [HB hk1];refine Fun.of (aD (by simp) ?_) rfl rfl
    conv=>whnf
    repeat' (first|(refine gC ?_;first|refine cN ?_|(refine gD ?_;first|refine cI ?_|refine cJ ?_)|refine ae.le (λhc=>?_) (λhc=>?_)|refine ae.dec (λhc=>?_) (λhc=>?_))|refine gL (.map ?_)|refine ak.nrm ?_)<;>conv=>whnf
    all_goals
     refine congrArg AV.bool ?_;symm
     first
      |(rw[decide_eq_decide];exact⟨λh=>by omega,λh=>⟨by omega,by omega,by assumption,by omega⟩⟩)
      |(rw[decide_eq_decide];exact⟨λ⟨_,_,_,h⟩=>by omega,λh=>⟨by omega,by omega,by assumption,by omega⟩⟩)
      |(rw[decide_eq_false_iff_not];rintro⟨e1,e2,e3,e4⟩;first|omega|contradiction)
      |(rw[decide_eq_true_iff];exact⟨by omega,by omega,by assumption,by omega⟩)
   .rw [Hz hk0 hk1 hk2];refine Fun.of (aD (by simp) ?_) rfl rfl
    conv=>whnf
    repeat' (first|refine gC (gD (cJ ?_))|refine ak.nrm ?_)<;>conv=>whnf
theorem C1(t:Tm)(hN:t.nodes<=1000000000):Fun Tryz.prog 184 [t.avw] (.bool t.right):=by
 have h1:=E5 t;have h2:=xA t hN;have h3:=Dq t hN
 have he:t.right=(t.form&&(decide ((t.sz:Int)<=200)&&decide ((t.dep:Int)<=20))):=by
  unfold Tm.right vB;rw[Bool.decide_and]
 rw[he];cases hf:t.form<;>rw[hf] at h1
 all_goals
  refine Fun.of (jD (by simp) ?_) rfl rfl
  conv=>whnf
  repeat' (first|(refine gF ?_;first|refine ag.fn (h1) ?_|refine ag.fn (h2) ?_|refine ag.fn (h3) ?_)|(refine gC ?_;first|refine cY ?_|refine cN ?_|(refine gD ?_;first|refine cI ?_|refine cJ ?_)|refine ae.le (λhc=>?_) (λhc=>?_))|refine ak.nrm ?_)<;>conv=>whnf
  all_goals (first|rfl|(refine congrArg AV.bool ?_;first|(simp[*];done)|(simp[*];omega)))
end Go.CK
namespace Go.CK
open Go.AM Go.Proofs
open Go.AM Go.Proofs
def At.right(x:At):Bool:=ek x.name&&(decide (x.args.length<=6)&&vLB 200 20 x.args)
def arG(op:Int):Int:=if op=1\/op=2 then 0 else if op=11\/op=12 then 1 else 2
def Gl.right(g:Gl):Bool:=if g.op=0 then (At.mk g.name g.args).right else decide (0<g.op/\g.op<=12)&&(decide (g.name=⟨⟨[]⟩⟩)&&(decide ((g.args.length:Int)=arG g.op)&&vLB 200 20 g.args))
def raB(l:List Tm):Bool:=l.all Tm.right&&decide ((Tm.szs l:Int)<=200)
theorem Fh(n:Int)(h:0<=n):∀l:List Tm,(Tm.lK l:Int)<=n↔∀x∈l,(x.dep:Int)<=n
 |[]=>by simp[Tm.lK,h]
 |x::l=>by
  have ih:=Fh n h l;simp only[Tm.lK,zI,forall_eq_or_imp,<-ih];omega
theorem vm:∀l:List Tm,Tm.fA l=l.all Tm.form
 |[]=>rfl
 |x::l=>by rw[Tm.fA,List.all_cons,vm l]
theorem Hf(l:List Tm):raB l=vLB 200 20 l:=by
 unfold raB vLB;rw[Bool.eq_iff_iff,vm];simp only[zD,decide_eq_true_eq,zT];rw[Fh 20 (by decide)]
 constructor
 .rintro ⟨h1,h2⟩;exact⟨λx hx=>(Ca (h1 x hx)).1,h2,λx hx=>(Ca (h1 x hx)).2.2⟩
 .rintro ⟨h1,h2,h3⟩;refine⟨λx hx=>?_,h2⟩;have:=Cd hx;unfold Tm.right vB;rw[h1 x hx,za,decide_eq_true_eq];exact⟨by omega,h3 x hx⟩
theorem om{l:List Tm}(hN:Tm.bp l<=100000000)(hl:l.length<=4000000000):Fun Tryz.prog 135 [.sl .no (l.map Tm.av)] (.bool (vLB 200 20 l)):=by
 rw[<-Hf];refine Fun.of (fp (by simp) ?_) rfl rfl
 conv=>whnf
 skip;refine az.by (fb:=true) (λ_ (j:Nat)=>⟨[(0,.sl .no (l.map Tm.av)),(3,.int .i64 (Tm.szs (l.take j):Int)),(4,.int .i64 (j:Int))],[],0⟩) (λj=>j<=l.length/\(l.take j).all Tm.right=true) (λj=>l.length-j) 0 ⟨zJ _,rfl⟩ ?_ ?_
 .refine aq.at_ ?_ rfl
  conv=>whnf
  refine And.intro ?_ ?_<;>conv=>whnf
  all_goals repeat' (first|(refine gV ?_;first|refine vE ?_|refine vI ?_|(refine WkN.norm ?_ ?_;(focus (simp[AV.norm,AV.aj,Tm.szs];done))))|exact True.intro)<;>conv=>whnf
 .rintro j ⟨q1,q2⟩
  by_cases hj:j<l.length
  .obtain ⟨x,hx⟩:∃x,l[j]? =some x:=⟨_,zA hj⟩;have htk:l.take (j+1)=l.take j++[x]:=by rw[ZC,hx];rfl
   have hxm:=zE hx;have hxn:=mR hxm;have h1:=C1 x (by omega)
   have h2:=xA x (by omega)
   have h3:=rH l hx;have h4:=mN l
   cases hr:x.right with
   |false=>
    rw[hr] at h1
    have:raB l=false:=by
     unfold raB;rw[List.all_eq_false.2 ⟨x,hxm,by simp[hr]⟩,zw]
    rw[this]
    conv=>whnf
    repeat' (first|refine gF (ag.fn (h1) ?_)|(refine gC ?_;first|refine cN ?_|refine .not ?_|refine gD (cI ?_))|refine gL (.map ?_)|refine gI (gT (iA ?_))|refine ak.nrm ?_)<;>conv=>whnf
   |true=>
    rw[hr] at h1
    conv=>whnf
    repeat' (first|(refine gF ?_;first|refine ag.fn (h1) ?_|refine ag.fn (h2) ?_)|(refine gC ?_;first|refine cY ?_|refine .not ?_|refine gD (cI ?_))|refine gW (wI ?_)|refine gL (.map ?_)|refine gI (gT (iA ?_)))<;>conv=>whnf
    refine⟨j+1,⟨⟨hj,by rw[htk];simp[q2,hr]⟩,by omega⟩,?_⟩
    refine aq.at_ ?_ rfl
    conv=>whnf
    refine And.intro ?_ ?_<;>conv=>whnf
    all_goals repeat' (first|(refine gV ?_;first|refine vE ?_|refine vI ?_|(refine WkN.norm ?_ ?_;(focus (simp[AV.norm,AV.aj,htk,rI];done))))|exact True.intro)<;>conv=>whnf
  .obtain rfl:j=l.length:=by omega
   rw[zz] at q2|-;unfold raB;rw[q2,za]
   conv=>whnf
   repeat' (first|refine gC (gD (cJ ?_))|refine gL (.map ?_)|refine ak.nrm ?_)<;>conv=>whnf
theorem ly(x:At)(hN:Tm.bp x.args<=100000000)(hl:x.args.length<=4000000000):Fun Tryz.prog 75 [x.av] (.bool x.right):=by
 have hn:=mQ x.name;have hr:=om hN hl;unfold At.right
 cases h1:ek x.name with
 |false=>
  rw[h1] at hn;refine Fun.of (bL (by simp) ?_) rfl rfl
  conv=>whnf
  repeat' (first|refine gF (ag.fn (hn) ?_)|refine gC (cN ?_)|refine ak.nrm ?_)<;>conv=>whnf
  all_goals rfl
 |true=>
 rw[h1] at hn
 by_cases h6:x.args.length<=6
 .rw [decide_eq_true h6];refine Fun.of (bL (by simp) ?_) rfl rfl
  conv=>whnf
  repeat' (first|(refine gF ?_;first|refine ag.fn (hn) ?_|refine ag.fn (hr) ?_)|(refine gC ?_;first|refine cY ?_|refine gD (cI ?_))|refine gL (.map ?_)|refine ak.nrm ?_)<;>conv=>whnf
  all_goals rfl
 .rw [decide_eq_false h6];refine Fun.of (bL (by simp) ?_) rfl rfl
  conv=>whnf
  repeat' (first|refine gF (ag.fn (hn) ?_)|(refine gC ?_;first|refine cY ?_|refine gD (cJ ?_))|refine gL (.map ?_)|refine ak.nrm ?_)<;>conv=>whnf
  all_goals rfl
def arR(op:Int):Int:=if op=1\/op=2 then 0 else if op=11\/op=12 then 1 else if 2<op/\op<11 then 2 else-1
theorem FC(op:Int):Fun Tryz.prog 163 [.int .i64 op] (.int .i64 (arR op)):=by
 unfold arR;refine Fun.of (jF (by simp) ?_) rfl rfl
 conv=>whnf
 repeat' (first|(refine gC ?_;first|refine cY ?_|refine cN ?_|(refine gD ?_;first|refine cI ?_|refine cJ ?_)|refine ae.lt (λhc=>?_) (λhc=>?_)|refine ae.dec (λhc=>?_) (λhc=>?_))|refine ak.nrm ?_)<;>conv=>whnf
 all_goals (congr 1;repeat (first|rw[if_pos (by omega)]|rw[if_neg (by omega)]))
theorem qD(g:Gl)(hN:Tm.bp g.args<=100000000)(hl:g.args.length<=4000000000):Fun Tryz.prog 116 [g.av] (.bool g.right):=by
 have hc:=ly (At.mk g.name g.args) hN hl;have hr:=om hN hl;have ha:=FC g.op;unfold Gl.right
 by_cases h0:g.op=0
 .rw [if_pos h0];refine Fun.of (aX (by simp) ?_) rfl rfl
  conv=>whnf
  repeat' (first|refine gF (ag.fn (hc) ?_)|refine gC (gD (cI ?_))|refine ak.nrm ?_)<;>conv=>whnf
 rw[if_neg h0]
 have hz:(0<g.op/\g.op<=12)/\arR g.op=arG g.op\/¬(0<g.op/\g.op<=12)/\arR g.op=-1:=by
  unfold arR arG
  by_cases h1:g.op=1\/g.op=2
  .rw [if_pos h1,if_pos h1];exact .inl ⟨by omega,rfl⟩
  .rw [if_neg h1,if_neg h1]
   by_cases h2:g.op=11\/g.op=12
   .rw [if_pos h2,if_pos h2];exact .inl ⟨by omega,rfl⟩
   .rw [if_neg h2,if_neg h2]
    by_cases h3:2<g.op/\g.op<11
    .rw [if_pos h3];exact .inl ⟨by omega,rfl⟩
    .rw [if_neg h3];exact .inr ⟨by omega,rfl⟩
 rcases hz with ⟨h1,h2⟩|⟨h1,h2⟩
 .rw [h2] at ha;rw[decide_eq_true h1,za]
  by_cases hn:g.name=⟨⟨[]⟩⟩
  rotate_left
  .rw [decide_eq_false hn,zw];refine Fun.of (aX (by simp) ?_) rfl rfl
   conv=>whnf
   repeat' (first|(refine gC ?_;first|refine cN ?_|refine gD (cJ ?_))|refine ak.nrm ?_)<;>conv=>whnf
  rw[decide_eq_true hn,za]
  by_cases hl:(g.args.length:Int)=arG g.op
  .rw [decide_eq_true hl,za];refine Fun.of (aX (by simp) ?_) rfl rfl
   conv=>whnf
   repeat' (first|(refine gG ?_;first|refine a6.fn (ha) ?_|refine a6.fn (hr) ?_)|(refine gC ?_;(refine gD ?_;first|refine cI ?_|refine cJ ?_))|refine gL (.map ?_)|refine ak.nrm ?_)<;>conv=>whnf
  .rw [decide_eq_false hl,zw];refine Fun.of (aX (by simp) ?_) rfl rfl
   conv=>whnf
   repeat' (first|refine gG (a6.fn (ha) ?_)|(refine gC ?_;(refine gD ?_;first|refine cI ?_|refine cJ ?_))|refine gL (.map ?_)|refine ak.nrm ?_)<;>conv=>whnf
 .rw [h2] at ha;rw[decide_eq_false h1,zw];refine Fun.of (aX (by simp) ?_) rfl rfl
  conv=>whnf
  repeat' (first|refine gG (a6.fn (ha) ?_)|(refine gC ?_;first|refine cN ?_|(refine gD ?_;first|refine cI ?_|refine cJ ?_)|refine ae.dec (λhc=>?_) (λhc=>?_))|refine gL (.map ?_)|refine ak.nrm ?_)<;>conv=>whnf
end Go.CK
