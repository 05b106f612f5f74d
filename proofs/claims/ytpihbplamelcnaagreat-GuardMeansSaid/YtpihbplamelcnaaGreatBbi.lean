/-
  Texts of this aX joined (wip/gen/bundle.py),those declarations only that are needed:AskI AskJ AskK AskL AskM. By an AI agent.
-/
import Derived.Test.YtpihbplamelcnaaGreatBbh
set_option linter.unusedSimpArgs false
set_option linter.unusedVariables false
set_option maxRecDepth 100000
namespace Go.CK
open Go.AM Go.Proofs
def g2(op:Int)(x y:Tm):Gl:=⟨op,⟨⟨[]⟩⟩,[x,y]⟩
theorem nU(op:Int)(x y:Tm):Fun Tryz.prog 77 [.int .i64 op,x.avw,y.avw] (g2 op x y).av:=by
 refine Fun.of (mD (by simp) ?_) rfl rfl
 conv=>whnf
 repeat' refine ae.nrm ?_<;>conv=>whnf
 all_goals (simp[g2,Gl.av,Tm.gz,Tm.avw])
def lZ(a:Gl):List Gl:=if a.op<11 then
  (if a.op=7 then [a,g2 8 (arg a 0) (arg a 1),g2 10 (arg a 0) (arg a 1),g2 10 (arg a 1) (arg a 0)]
  else if a.op=9 then [a,g2 8 (arg a 0) (arg a 1),g2 8 (arg a 1) (arg a 0),g2 9 (arg a 1) (arg a 0)]
  else if a.op=10\/a.op=5\/a.op=6 then [a,g2 a.op (arg a 1) (arg a 0)]
  else [a])
 else [a]
def Og(a g:Gl):Bool:=a.test&&(g.test&&(lZ a).any λx=>x.same g)
set_option maxHeartbeats 4000000 in
theorem Bk(a g:Gl)(hNa:Tm.aj a.args<=90000)(hNg:Tm.aj g.args<=90000)(hla:a.args.length<=4000000000)(hlg:g.args.length<=4000000000):Fun Tryz.prog 45 [a.av,g.av] (.bool (Og a g)):=by
 have ta:=Cx a (by omega) (by omega)
 have tg:=Cx g (by omega) (by omega)
 unfold Og
 cases hta:a.test with
 |false=>
  rw[hta] at ta;refine Fun.of (aA (by simp) ?_) rfl rfl
  conv=>whnf
  repeat' (first|refine gF (aa.fn (ta) ?_)|(refine gC ?_;first|refine cY ?_|refine cN ?_|refine .not ?_)|refine ae.nrm ?_)<;>conv=>whnf
  all_goals rfl
 |true=>
 rw[hta] at ta
 cases htg:g.test with
 |false=>
  rw[htg] at tg;refine Fun.of (aA (by simp) ?_) rfl rfl
  conv=>whnf
  repeat' (first|(refine gF ?_;first|refine aa.fn (ta) ?_|refine aa.fn (tg) ?_)|(refine gC ?_;first|refine cY ?_|refine cN ?_|refine .not ?_)|refine ae.nrm ?_)<;>conv=>whnf
  all_goals rfl
 |true=>
 rw[htg] at tg;rw[za,za];obtain⟨hop,hlen⟩:=wV hta
 have hMl:(lZ a).length<=4:=by
  unfold lZ;repeat' split
  all_goals simp
 by_cases h11:a.op<11
 rotate_left
 .have hM:lZ a=[a]:=by unfold lZ;rw[if_neg h11]
  generalize lZ a=M at hM hMl|-;refine Fun.of (aA (by simp) ?_) rfl rfl
  conv=>whnf
  repeat' (first|(refine gF ?_;first|refine aa.fn (ta) ?_|refine aa.fn (tg) ?_)|(refine gC ?_;first|refine cY ?_|refine .not ?_|refine gD (cJ ?_)))<;>conv=>whnf
  refine ax.by (fb:=true) (λ_ (j:Nat)=>⟨[(3,.ptr 0 0),(5,.sl .no (M.map Gl.av)),(8,.int .i64 (j:Int))],[.cells [.int .i64 g.op,.str g.name,.sl .no (g.args.map Tm.av)]],0⟩) (λj=>j<=M.length/\((M.drop j).any λx=>x.same g)=M.any λx=>x.same g) (λj=>M.length-j) 0 ⟨zJ _,rfl⟩ ?_ ?_
  .refine ah.lay [some 1] oko ?_
   conv=>whnf
   refine ah.at_ ?_ rfl
   conv=>whnf
   refine And.intro ?_ ?_<;>conv=>whnf
   all_goals repeat' (first|(refine gV ?_;first|refine vE ?_|refine vI ?_|(refine WkN.norm ?_ ?_;(focus (simp[AV.norm,AV.ao,hM,g2,Gl.av,Tm.gz,Tm.avw,AV.norm,AV.az,AV.ao];done))))|refine gX (xB ?_)|exact True.intro)<;>conv=>whnf
  .clear hM;rintro j ⟨q1,q2⟩
   by_cases hj:j<M.length
   .obtain ⟨x,hx⟩:∃x,M[j]? =some x:=⟨_,zA hj⟩;rw[zH hj,(zB.1 hx).2,List.any_cons] at q2;have hs:=bu (a:=x) (b:=g)
    cases hc:x.same g with
    |true=>
     rw[hc] at hs;rw[hc,Bool.true_or] at q2;rw[<-q2]
     conv=>whnf
     repeat' (first|refine gG (al.fn (hs) ?_)|(refine gC ?_;first|refine cY ?_|refine gD (cI ?_))|refine gL (.map ?_)|refine gI (gM (iE ?_))|refine ae.nrm ?_)<;>conv=>whnf
    |false=>
     rw[hc] at hs;rw[hc,Bool.false_or] at q2
     conv=>whnf
     repeat' (first|refine gG (al.fn (hs) ?_)|(refine gC ?_;first|refine cN ?_|refine gD (cI ?_))|refine gW (wI ?_)|refine gL (.map ?_)|refine gI (gM (iE ?_)))<;>conv=>whnf
     refine⟨j+1,⟨⟨hj,q2⟩,by omega⟩,?_⟩
     exact aH
   .obtain rfl:j=M.length:=by omega
    rw[zj,List.any_nil] at q2;rw[<-q2]
    conv=>whnf
    repeat' (first|refine gC (gD (cJ ?_))|refine gL (.map ?_)|refine ae.nrm ?_)<;>conv=>whnf
 have h2:a.args.length=2:=by unfold arG at hlen;rw[if_neg (by omega),if_neg (by omega)] at hlen;omega
 have a0:=je (g:=a) (i:=0) (by omega)
 have a1:=je (g:=a) (i:=1) (by omega)
 by_cases h7:a.op=7
 .have hM:lZ a=[a,g2 8 (arg a 0) (arg a 1),g2 10 (arg a 0) (arg a 1),g2 10 (arg a 1) (arg a 0)]:=by unfold lZ;rw[if_pos h11,if_pos h7]
  generalize lZ a=M at hM hMl|-;have c1:=nU 8 (arg a 0) (arg a 1);have c2:=nU 10 (arg a 0) (arg a 1);have c3:=nU 10 (arg a 1) (arg a 0);refine Fun.of (aA (by simp) ?_) rfl rfl
  conv=>whnf
  repeat' (first|(refine gF ?_;first|refine aa.fn (ta) ?_|refine aa.fn (tg) ?_)|(refine gG ?_;first|refine al.fn (c1) ?_|refine al.fn (c2) ?_|refine al.fn (c3) ?_)|(refine gC ?_;first|refine cY ?_|refine .not ?_|refine gD (cI ?_))|refine gN (nS ?_)|refine gI (gT (iA ?_))|refine vM.mk ?_ ?_)<;>conv=>whnf
  .refine ax.by (fb:=true) (λ_ (j:Nat)=>⟨[(3,.ptr 0 0),(5,.sl .no (M.map Gl.av)),(8,.int .i64 (j:Int))],[.cells [.int .i64 g.op,.str g.name,.sl .no (g.args.map Tm.av)]],0⟩) (λj=>j<=M.length/\((M.drop j).any λx=>x.same g)=M.any λx=>x.same g) (λj=>M.length-j) 0 ⟨zJ _,rfl⟩ ?_ ?_
   .refine ah.lay [some 1] oko ?_
    conv=>whnf
    refine ah.at_ ?_ rfl
    conv=>whnf
    refine And.intro ?_ ?_<;>conv=>whnf
    all_goals repeat' (first|(refine gV ?_;first|refine vE ?_|refine vI ?_|(refine WkN.norm ?_ ?_;(focus (simp[AV.norm,AV.ao,hM,g2,Gl.av,Tm.gz,Tm.avw,AV.norm,AV.az,AV.ao];done))))|refine gX (xB ?_)|exact True.intro)<;>conv=>whnf
   .clear hM;rintro j ⟨q1,q2⟩
    by_cases hj:j<M.length
    .obtain ⟨x,hx⟩:∃x,M[j]? =some x:=⟨_,zA hj⟩;rw[zH hj,(zB.1 hx).2,List.any_cons] at q2;have hs:=bu (a:=x) (b:=g)
     cases hc:x.same g with
     |true=>
      rw[hc] at hs;rw[hc,Bool.true_or] at q2;rw[<-q2]
      conv=>whnf
      repeat' (first|refine gG (al.fn (hs) ?_)|(refine gC ?_;first|refine cY ?_|refine gD (cI ?_))|refine gL (.map ?_)|refine gI (gM (iE ?_))|refine ae.nrm ?_)<;>conv=>whnf
     |false=>
      rw[hc] at hs;rw[hc,Bool.false_or] at q2
      conv=>whnf
      repeat' (first|refine gG (al.fn (hs) ?_)|(refine gC ?_;first|refine cN ?_|refine gD (cI ?_))|refine gW (wI ?_)|refine gL (.map ?_)|refine gI (gM (iE ?_)))<;>conv=>whnf
      refine⟨j+1,⟨⟨hj,q2⟩,by omega⟩,?_⟩
      exact aH
    .obtain rfl:j=M.length:=by omega
     rw[zj,List.any_nil] at q2;rw[<-q2]
     conv=>whnf
     repeat' (first|refine gC (gD (cJ ?_))|refine gL (.map ?_)|refine ae.nrm ?_)<;>conv=>whnf
  .refine ax.by (fb:=true) (λ_ (j:Nat)=>⟨[(3,.ptr 0 0),(5,.sl .no (M.map Gl.av)),(8,.int .i64 (j:Int))],[.cells [.int .i64 g.op,.str g.name,.sl .no (g.args.map Tm.av)]],0⟩) (λj=>j<=M.length/\((M.drop j).any λx=>x.same g)=M.any λx=>x.same g) (λj=>M.length-j) 0 ⟨zJ _,rfl⟩ ?_ ?_
   .refine ah.lay [some 1] oko ?_
    conv=>whnf
    refine ah.at_ ?_ rfl
    conv=>whnf
    refine And.intro ?_ ?_<;>conv=>whnf
    all_goals repeat' (first|(refine gV ?_;first|refine vE ?_|refine vI ?_|(refine WkN.norm ?_ ?_;(focus (simp[AV.norm,AV.ao,hM,g2,Gl.av,Tm.gz,Tm.avw,AV.norm,AV.az,AV.ao];done))))|refine gX (xB ?_)|exact True.intro)<;>conv=>whnf
   .clear hM;rintro j ⟨q1,q2⟩
    by_cases hj:j<M.length
    .obtain ⟨x,hx⟩:∃x,M[j]? =some x:=⟨_,zA hj⟩;rw[zH hj,(zB.1 hx).2,List.any_cons] at q2;have hs:=bu (a:=x) (b:=g)
     cases hc:x.same g with
     |true=>
      rw[hc] at hs;rw[hc,Bool.true_or] at q2;rw[<-q2]
      conv=>whnf
      repeat' (first|refine gG (al.fn (hs) ?_)|(refine gC ?_;first|refine cY ?_|refine gD (cI ?_))|refine gL (.map ?_)|refine gI (gM (iE ?_))|refine ae.nrm ?_)<;>conv=>whnf
     |false=>
      rw[hc] at hs;rw[hc,Bool.false_or] at q2
      conv=>whnf
      repeat' (first|refine gG (al.fn (hs) ?_)|(refine gC ?_;first|refine cN ?_|refine gD (cI ?_))|refine gW (wI ?_)|refine gL (.map ?_)|refine gI (gM (iE ?_)))<;>conv=>whnf
      refine⟨j+1,⟨⟨hj,q2⟩,by omega⟩,?_⟩
      exact aH
    .obtain rfl:j=M.length:=by omega
     rw[zj,List.any_nil] at q2;rw[<-q2]
     conv=>whnf
     repeat' (first|refine gC (gD (cJ ?_))|refine gL (.map ?_)|refine ae.nrm ?_)<;>conv=>whnf
 by_cases h9:a.op=9
 .have hM:lZ a=[a,g2 8 (arg a 0) (arg a 1),g2 8 (arg a 1) (arg a 0),g2 9 (arg a 1) (arg a 0)]:=by unfold lZ;rw[if_pos h11,if_neg h7,if_pos h9]
  generalize lZ a=M at hM hMl|-;have c1:=nU 8 (arg a 0) (arg a 1);have c2:=nU 8 (arg a 1) (arg a 0);have c3:=nU 9 (arg a 1) (arg a 0);refine Fun.of (aA (by simp) ?_) rfl rfl
  conv=>whnf
  repeat' (first|(refine gF ?_;first|refine aa.fn (ta) ?_|refine aa.fn (tg) ?_)|(refine gG ?_;first|refine al.fn (c1) ?_|refine al.fn (c2) ?_|refine al.fn (c3) ?_)|(refine gC ?_;first|refine cY ?_|refine .not ?_|(refine gD ?_;first|refine cI ?_|refine cJ ?_))|refine gN (nS ?_)|refine gI (gT (iA ?_))|refine vM.mk ?_ ?_)<;>conv=>whnf
  .refine ax.by (fb:=true) (λ_ (j:Nat)=>⟨[(3,.ptr 0 0),(5,.sl .no (M.map Gl.av)),(8,.int .i64 (j:Int))],[.cells [.int .i64 g.op,.str g.name,.sl .no (g.args.map Tm.av)]],0⟩) (λj=>j<=M.length/\((M.drop j).any λx=>x.same g)=M.any λx=>x.same g) (λj=>M.length-j) 0 ⟨zJ _,rfl⟩ ?_ ?_
   .refine ah.lay [some 1] oko ?_
    conv=>whnf
    refine ah.at_ ?_ rfl
    conv=>whnf
    refine And.intro ?_ ?_<;>conv=>whnf
    all_goals repeat' (first|(refine gV ?_;first|refine vE ?_|refine vI ?_|(refine WkN.norm ?_ ?_;(focus (simp[AV.norm,AV.ao,hM,g2,Gl.av,Tm.gz,Tm.avw,AV.norm,AV.az,AV.ao];done))))|refine gX (xB ?_)|exact True.intro)<;>conv=>whnf
   .clear hM;rintro j ⟨q1,q2⟩
    by_cases hj:j<M.length
    .obtain ⟨x,hx⟩:∃x,M[j]? =some x:=⟨_,zA hj⟩;rw[zH hj,(zB.1 hx).2,List.any_cons] at q2;have hs:=bu (a:=x) (b:=g)
     cases hc:x.same g with
     |true=>
      rw[hc] at hs;rw[hc,Bool.true_or] at q2;rw[<-q2]
      conv=>whnf
      repeat' (first|refine gG (al.fn (hs) ?_)|(refine gC ?_;first|refine cY ?_|refine gD (cI ?_))|refine gL (.map ?_)|refine gI (gM (iE ?_))|refine ae.nrm ?_)<;>conv=>whnf
     |false=>
      rw[hc] at hs;rw[hc,Bool.false_or] at q2
      conv=>whnf
      repeat' (first|refine gG (al.fn (hs) ?_)|(refine gC ?_;first|refine cN ?_|refine gD (cI ?_))|refine gW (wI ?_)|refine gL (.map ?_)|refine gI (gM (iE ?_)))<;>conv=>whnf
      refine⟨j+1,⟨⟨hj,q2⟩,by omega⟩,?_⟩
      exact aH
    .obtain rfl:j=M.length:=by omega
     rw[zj,List.any_nil] at q2;rw[<-q2]
     conv=>whnf
     repeat' (first|refine gC (gD (cJ ?_))|refine gL (.map ?_)|refine ae.nrm ?_)<;>conv=>whnf
  .refine ax.by (fb:=true) (λ_ (j:Nat)=>⟨[(3,.ptr 0 0),(5,.sl .no (M.map Gl.av)),(8,.int .i64 (j:Int))],[.cells [.int .i64 g.op,.str g.name,.sl .no (g.args.map Tm.av)]],0⟩) (λj=>j<=M.length/\((M.drop j).any λx=>x.same g)=M.any λx=>x.same g) (λj=>M.length-j) 0 ⟨zJ _,rfl⟩ ?_ ?_
   .refine ah.lay [some 1] oko ?_
    conv=>whnf
    refine ah.at_ ?_ rfl
    conv=>whnf
    refine And.intro ?_ ?_<;>conv=>whnf
    all_goals repeat' (first|(refine gV ?_;first|refine vE ?_|refine vI ?_|(refine WkN.norm ?_ ?_;(focus (simp[AV.norm,AV.ao,hM,g2,Gl.av,Tm.gz,Tm.avw,AV.norm,AV.az,AV.ao];done))))|refine gX (xB ?_)|exact True.intro)<;>conv=>whnf
   .clear hM;rintro j ⟨q1,q2⟩
    by_cases hj:j<M.length
    .obtain ⟨x,hx⟩:∃x,M[j]? =some x:=⟨_,zA hj⟩;rw[zH hj,(zB.1 hx).2,List.any_cons] at q2;have hs:=bu (a:=x) (b:=g)
     cases hc:x.same g with
     |true=>
      rw[hc] at hs;rw[hc,Bool.true_or] at q2;rw[<-q2]
      conv=>whnf
      repeat' (first|refine gG (al.fn (hs) ?_)|(refine gC ?_;first|refine cY ?_|refine gD (cI ?_))|refine gL (.map ?_)|refine gI (gM (iE ?_))|refine ae.nrm ?_)<;>conv=>whnf
     |false=>
      rw[hc] at hs;rw[hc,Bool.false_or] at q2
      conv=>whnf
      repeat' (first|refine gG (al.fn (hs) ?_)|(refine gC ?_;first|refine cN ?_|refine gD (cI ?_))|refine gW (wI ?_)|refine gL (.map ?_)|refine gI (gM (iE ?_)))<;>conv=>whnf
      refine⟨j+1,⟨⟨hj,q2⟩,by omega⟩,?_⟩
      exact aH
    .obtain rfl:j=M.length:=by omega
     rw[zj,List.any_nil] at q2;rw[<-q2]
     conv=>whnf
     repeat' (first|refine gC (gD (cJ ?_))|refine gL (.map ?_)|refine ae.nrm ?_)<;>conv=>whnf
 by_cases h10:a.op=10\/a.op=5\/a.op=6
 .have hM:lZ a=[a,g2 a.op (arg a 1) (arg a 0)]:=by unfold lZ;rw[if_pos h11,if_neg h7,if_neg h9,if_pos h10]
  generalize lZ a=M at hM hMl|-;have c1:=nU a.op (arg a 1) (arg a 0);rcases h10 with h10|h10|h10
  .refine Fun.of (aA (by simp) ?_) rfl rfl
   conv=>whnf
   repeat' (first|(refine gF ?_;first|refine aa.fn (ta) ?_|refine aa.fn (tg) ?_|refine aa.fn (c1) ?_)|(refine gC ?_;first|refine cY ?_|refine .not ?_|(refine gD ?_;first|refine cI ?_|refine cJ ?_))|refine gN (nS ?_)|refine gI (gT (iA ?_))|refine vM.mk ?_ ?_)<;>conv=>whnf
   .refine ax.by (fb:=true) (λ_ (j:Nat)=>⟨[(3,.ptr 0 0),(5,.sl .no (M.map Gl.av)),(8,.int .i64 (j:Int))],[.cells [.int .i64 g.op,.str g.name,.sl .no (g.args.map Tm.av)]],0⟩) (λj=>j<=M.length/\((M.drop j).any λx=>x.same g)=M.any λx=>x.same g) (λj=>M.length-j) 0 ⟨zJ _,rfl⟩ ?_ ?_
    .refine ah.lay [some 1] oko ?_
     conv=>whnf
     refine ah.at_ ?_ rfl
     conv=>whnf
     refine And.intro ?_ ?_<;>conv=>whnf
     all_goals repeat' (first|(refine gV ?_;first|refine vE ?_|refine vI ?_|(refine WkN.norm ?_ ?_;(focus (simp[AV.norm,AV.ao,hM,g2,Gl.av,Tm.gz,Tm.avw,AV.norm,AV.az,AV.ao];done))))|refine gX (xB ?_)|exact True.intro)<;>conv=>whnf
    .clear hM;rintro j ⟨q1,q2⟩
     by_cases hj:j<M.length
     .obtain ⟨x,hx⟩:∃x,M[j]? =some x:=⟨_,zA hj⟩;rw[zH hj,(zB.1 hx).2,List.any_cons] at q2;have hs:=bu (a:=x) (b:=g)
      cases hc:x.same g with
      |true=>
       rw[hc] at hs;rw[hc,Bool.true_or] at q2;rw[<-q2]
       conv=>whnf
       repeat' (first|refine gG (al.fn (hs) ?_)|(refine gC ?_;first|refine cY ?_|refine gD (cI ?_))|refine gL (.map ?_)|refine gI (gM (iE ?_))|refine ae.nrm ?_)<;>conv=>whnf
      |false=>
       rw[hc] at hs;rw[hc,Bool.false_or] at q2
       conv=>whnf
       repeat' (first|refine gG (al.fn (hs) ?_)|(refine gC ?_;first|refine cN ?_|refine gD (cI ?_))|refine gW (wI ?_)|refine gL (.map ?_)|refine gI (gM (iE ?_)))<;>conv=>whnf
       refine⟨j+1,⟨⟨hj,q2⟩,by omega⟩,?_⟩
       exact aH
     .obtain rfl:j=M.length:=by omega
      rw[zj,List.any_nil] at q2;rw[<-q2]
      conv=>whnf
      repeat' (first|refine gC (gD (cJ ?_))|refine gL (.map ?_)|refine ae.nrm ?_)<;>conv=>whnf
   .refine ax.by (fb:=true) (λ_ (j:Nat)=>⟨[(3,.ptr 0 0),(5,.sl .no (M.map Gl.av)),(8,.int .i64 (j:Int))],[.cells [.int .i64 g.op,.str g.name,.sl .no (g.args.map Tm.av)]],0⟩) (λj=>j<=M.length/\((M.drop j).any λx=>x.same g)=M.any λx=>x.same g) (λj=>M.length-j) 0 ⟨zJ _,rfl⟩ ?_ ?_
    .refine ah.lay [some 1] oko ?_
     conv=>whnf
     refine ah.at_ ?_ rfl
     conv=>whnf
     refine And.intro ?_ ?_<;>conv=>whnf
     all_goals repeat' (first|(refine gV ?_;first|refine vE ?_|refine vI ?_|(refine WkN.norm ?_ ?_;(focus (simp[AV.norm,AV.ao,hM,g2,Gl.av,Tm.gz,Tm.avw,AV.norm,AV.az,AV.ao];done))))|refine gX (xB ?_)|exact True.intro)<;>conv=>whnf
    .clear hM;rintro j ⟨q1,q2⟩
     by_cases hj:j<M.length
     .obtain ⟨x,hx⟩:∃x,M[j]? =some x:=⟨_,zA hj⟩;rw[zH hj,(zB.1 hx).2,List.any_cons] at q2;have hs:=bu (a:=x) (b:=g)
      cases hc:x.same g with
      |true=>
       rw[hc] at hs;rw[hc,Bool.true_or] at q2;rw[<-q2]
       conv=>whnf
       repeat' (first|refine gG (al.fn (hs) ?_)|(refine gC ?_;first|refine cY ?_|refine gD (cI ?_))|refine gL (.map ?_)|refine gI (gM (iE ?_))|refine ae.nrm ?_)<;>conv=>whnf
      |false=>
       rw[hc] at hs;rw[hc,Bool.false_or] at q2
       conv=>whnf
       repeat' (first|refine gG (al.fn (hs) ?_)|(refine gC ?_;first|refine cN ?_|refine gD (cI ?_))|refine gW (wI ?_)|refine gL (.map ?_)|refine gI (gM (iE ?_)))<;>conv=>whnf
       refine⟨j+1,⟨⟨hj,q2⟩,by omega⟩,?_⟩
       exact aH
     .obtain rfl:j=M.length:=by omega
      rw[zj,List.any_nil] at q2;rw[<-q2]
      conv=>whnf
      repeat' (first|refine gC (gD (cJ ?_))|refine gL (.map ?_)|refine ae.nrm ?_)<;>conv=>whnf
  .refine Fun.of (aA (by simp) ?_) rfl rfl
   conv=>whnf
   repeat' (first|(refine gF ?_;first|refine aa.fn (ta) ?_|refine aa.fn (tg) ?_|refine aa.fn (c1) ?_)|(refine gC ?_;first|refine cY ?_|refine .not ?_|(refine gD ?_;first|refine cI ?_|refine cJ ?_))|refine gN (nS ?_)|refine gI (gT (iA ?_))|refine vM.mk ?_ ?_)<;>conv=>whnf
   .refine ax.by (fb:=true) (λ_ (j:Nat)=>⟨[(3,.ptr 0 0),(5,.sl .no (M.map Gl.av)),(8,.int .i64 (j:Int))],[.cells [.int .i64 g.op,.str g.name,.sl .no (g.args.map Tm.av)]],0⟩) (λj=>j<=M.length/\((M.drop j).any λx=>x.same g)=M.any λx=>x.same g) (λj=>M.length-j) 0 ⟨zJ _,rfl⟩ ?_ ?_
    .refine ah.lay [some 1] oko ?_
     conv=>whnf
     refine ah.at_ ?_ rfl
     conv=>whnf
     refine And.intro ?_ ?_<;>conv=>whnf
     all_goals repeat' (first|(refine gV ?_;first|refine vE ?_|refine vI ?_|(refine WkN.norm ?_ ?_;(focus (simp[AV.norm,AV.ao,hM,g2,Gl.av,Tm.gz,Tm.avw,AV.norm,AV.az,AV.ao];done))))|refine gX (xB ?_)|exact True.intro)<;>conv=>whnf
    .clear hM;rintro j ⟨q1,q2⟩
     by_cases hj:j<M.length
     .obtain ⟨x,hx⟩:∃x,M[j]? =some x:=⟨_,zA hj⟩;rw[zH hj,(zB.1 hx).2,List.any_cons] at q2;have hs:=bu (a:=x) (b:=g)
      cases hc:x.same g with
      |true=>
       rw[hc] at hs;rw[hc,Bool.true_or] at q2;rw[<-q2]
       conv=>whnf
       repeat' (first|refine gG (al.fn (hs) ?_)|(refine gC ?_;first|refine cY ?_|refine gD (cI ?_))|refine gL (.map ?_)|refine gI (gM (iE ?_))|refine ae.nrm ?_)<;>conv=>whnf
      |false=>
       rw[hc] at hs;rw[hc,Bool.false_or] at q2
       conv=>whnf
       repeat' (first|refine gG (al.fn (hs) ?_)|(refine gC ?_;first|refine cN ?_|refine gD (cI ?_))|refine gW (wI ?_)|refine gL (.map ?_)|refine gI (gM (iE ?_)))<;>conv=>whnf
       refine⟨j+1,⟨⟨hj,q2⟩,by omega⟩,?_⟩
       exact aH
     .obtain rfl:j=M.length:=by omega
      rw[zj,List.any_nil] at q2;rw[<-q2]
      conv=>whnf
      repeat' (first|refine gC (gD (cJ ?_))|refine gL (.map ?_)|refine ae.nrm ?_)<;>conv=>whnf
   .refine ax.by (fb:=true) (λ_ (j:Nat)=>⟨[(3,.ptr 0 0),(5,.sl .no (M.map Gl.av)),(8,.int .i64 (j:Int))],[.cells [.int .i64 g.op,.str g.name,.sl .no (g.args.map Tm.av)]],0⟩) (λj=>j<=M.length/\((M.drop j).any λx=>x.same g)=M.any λx=>x.same g) (λj=>M.length-j) 0 ⟨zJ _,rfl⟩ ?_ ?_
    .refine ah.lay [some 1] oko ?_
     conv=>whnf
     refine ah.at_ ?_ rfl
     conv=>whnf
     refine And.intro ?_ ?_<;>conv=>whnf
     all_goals repeat' (first|(refine gV ?_;first|refine vE ?_|refine vI ?_|(refine WkN.norm ?_ ?_;(focus (simp[AV.norm,AV.ao,hM,g2,Gl.av,Tm.gz,Tm.avw,AV.norm,AV.az,AV.ao];done))))|refine gX (xB ?_)|exact True.intro)<;>conv=>whnf
    .clear hM;rintro j ⟨q1,q2⟩
     by_cases hj:j<M.length
     .obtain ⟨x,hx⟩:∃x,M[j]? =some x:=⟨_,zA hj⟩;rw[zH hj,(zB.1 hx).2,List.any_cons] at q2;have hs:=bu (a:=x) (b:=g)
      cases hc:x.same g with
      |true=>
       rw[hc] at hs;rw[hc,Bool.true_or] at q2;rw[<-q2]
       conv=>whnf
       repeat' (first|refine gG (al.fn (hs) ?_)|(refine gC ?_;first|refine cY ?_|refine gD (cI ?_))|refine gL (.map ?_)|refine gI (gM (iE ?_))|refine ae.nrm ?_)<;>conv=>whnf
      |false=>
       rw[hc] at hs;rw[hc,Bool.false_or] at q2
       conv=>whnf
       repeat' (first|refine gG (al.fn (hs) ?_)|(refine gC ?_;first|refine cN ?_|refine gD (cI ?_))|refine gW (wI ?_)|refine gL (.map ?_)|refine gI (gM (iE ?_)))<;>conv=>whnf
       refine⟨j+1,⟨⟨hj,q2⟩,by omega⟩,?_⟩
       exact aH
     .obtain rfl:j=M.length:=by omega
      rw[zj,List.any_nil] at q2;rw[<-q2]
      conv=>whnf
      repeat' (first|refine gC (gD (cJ ?_))|refine gL (.map ?_)|refine ae.nrm ?_)<;>conv=>whnf
  .refine Fun.of (aA (by simp) ?_) rfl rfl
   conv=>whnf
   repeat' (first|(refine gF ?_;first|refine aa.fn (ta) ?_|refine aa.fn (tg) ?_|refine aa.fn (c1) ?_)|(refine gC ?_;first|refine cY ?_|refine .not ?_|(refine gD ?_;first|refine cI ?_|refine cJ ?_))|refine gN (nS ?_)|refine gI (gT (iA ?_))|refine vM.mk ?_ ?_)<;>conv=>whnf
   .refine ax.by (fb:=true) (λ_ (j:Nat)=>⟨[(3,.ptr 0 0),(5,.sl .no (M.map Gl.av)),(8,.int .i64 (j:Int))],[.cells [.int .i64 g.op,.str g.name,.sl .no (g.args.map Tm.av)]],0⟩) (λj=>j<=M.length/\((M.drop j).any λx=>x.same g)=M.any λx=>x.same g) (λj=>M.length-j) 0 ⟨zJ _,rfl⟩ ?_ ?_
    .refine ah.lay [some 1] oko ?_
     conv=>whnf
     refine ah.at_ ?_ rfl
     conv=>whnf
     refine And.intro ?_ ?_<;>conv=>whnf
     all_goals repeat' (first|(refine gV ?_;first|refine vE ?_|refine vI ?_|(refine WkN.norm ?_ ?_;(focus (simp[AV.norm,AV.ao,hM,g2,Gl.av,Tm.gz,Tm.avw,AV.norm,AV.az,AV.ao];done))))|refine gX (xB ?_)|exact True.intro)<;>conv=>whnf
    .clear hM;rintro j ⟨q1,q2⟩
     by_cases hj:j<M.length
     .obtain ⟨x,hx⟩:∃x,M[j]? =some x:=⟨_,zA hj⟩;rw[zH hj,(zB.1 hx).2,List.any_cons] at q2;have hs:=bu (a:=x) (b:=g)
      cases hc:x.same g with
      |true=>
       rw[hc] at hs;rw[hc,Bool.true_or] at q2;rw[<-q2]
       conv=>whnf
       repeat' (first|refine gG (al.fn (hs) ?_)|(refine gC ?_;first|refine cY ?_|refine gD (cI ?_))|refine gL (.map ?_)|refine gI (gM (iE ?_))|refine ae.nrm ?_)<;>conv=>whnf
      |false=>
       rw[hc] at hs;rw[hc,Bool.false_or] at q2
       conv=>whnf
       repeat' (first|refine gG (al.fn (hs) ?_)|(refine gC ?_;first|refine cN ?_|refine gD (cI ?_))|refine gW (wI ?_)|refine gL (.map ?_)|refine gI (gM (iE ?_)))<;>conv=>whnf
       refine⟨j+1,⟨⟨hj,q2⟩,by omega⟩,?_⟩
       exact aH
     .obtain rfl:j=M.length:=by omega
      rw[zj,List.any_nil] at q2;rw[<-q2]
      conv=>whnf
      repeat' (first|refine gC (gD (cJ ?_))|refine gL (.map ?_)|refine ae.nrm ?_)<;>conv=>whnf
   .refine ax.by (fb:=true) (λ_ (j:Nat)=>⟨[(3,.ptr 0 0),(5,.sl .no (M.map Gl.av)),(8,.int .i64 (j:Int))],[.cells [.int .i64 g.op,.str g.name,.sl .no (g.args.map Tm.av)]],0⟩) (λj=>j<=M.length/\((M.drop j).any λx=>x.same g)=M.any λx=>x.same g) (λj=>M.length-j) 0 ⟨zJ _,rfl⟩ ?_ ?_
    .refine ah.lay [some 1] oko ?_
     conv=>whnf
     refine ah.at_ ?_ rfl
     conv=>whnf
     refine And.intro ?_ ?_<;>conv=>whnf
     all_goals repeat' (first|(refine gV ?_;first|refine vE ?_|refine vI ?_|(refine WkN.norm ?_ ?_;(focus (simp[AV.norm,AV.ao,hM,g2,Gl.av,Tm.gz,Tm.avw,AV.norm,AV.az,AV.ao];done))))|refine gX (xB ?_)|exact True.intro)<;>conv=>whnf
    .clear hM;rintro j ⟨q1,q2⟩
     by_cases hj:j<M.length
     .obtain ⟨x,hx⟩:∃x,M[j]? =some x:=⟨_,zA hj⟩;rw[zH hj,(zB.1 hx).2,List.any_cons] at q2;have hs:=bu (a:=x) (b:=g)
      cases hc:x.same g with
      |true=>
       rw[hc] at hs;rw[hc,Bool.true_or] at q2;rw[<-q2]
       conv=>whnf
       repeat' (first|refine gG (al.fn (hs) ?_)|(refine gC ?_;first|refine cY ?_|refine gD (cI ?_))|refine gL (.map ?_)|refine gI (gM (iE ?_))|refine ae.nrm ?_)<;>conv=>whnf
      |false=>
       rw[hc] at hs;rw[hc,Bool.false_or] at q2
       conv=>whnf
       repeat' (first|refine gG (al.fn (hs) ?_)|(refine gC ?_;first|refine cN ?_|refine gD (cI ?_))|refine gW (wI ?_)|refine gL (.map ?_)|refine gI (gM (iE ?_)))<;>conv=>whnf
       refine⟨j+1,⟨⟨hj,q2⟩,by omega⟩,?_⟩
       exact aH
     .obtain rfl:j=M.length:=by omega
      rw[zj,List.any_nil] at q2;rw[<-q2]
      conv=>whnf
      repeat' (first|refine gC (gD (cJ ?_))|refine gL (.map ?_)|refine ae.nrm ?_)<;>conv=>whnf
 .have hM:lZ a=[a]:=by unfold lZ;rw[if_pos h11,if_neg h7,if_neg h9,if_neg h10]
  generalize lZ a=M at hM hMl|-;refine Fun.of (aA (by simp) ?_) rfl rfl
  conv=>whnf
  repeat' (first|(refine gF ?_;first|refine aa.fn (ta) ?_|refine aa.fn (tg) ?_)|(refine gC ?_;first|refine cY ?_|refine .not ?_|(refine gD ?_;first|refine cI ?_|refine cJ ?_))|refine gI (gT (iA ?_))|refine vM.mk ?_ ?_)<;>conv=>whnf
  .refine ax.by (fb:=true) (λ_ (j:Nat)=>⟨[(3,.ptr 0 0),(5,.sl .no (M.map Gl.av)),(8,.int .i64 (j:Int))],[.cells [.int .i64 g.op,.str g.name,.sl .no (g.args.map Tm.av)]],0⟩) (λj=>j<=M.length/\((M.drop j).any λx=>x.same g)=M.any λx=>x.same g) (λj=>M.length-j) 0 ⟨zJ _,rfl⟩ ?_ ?_
   .refine ah.lay [some 1] oko ?_
    conv=>whnf
    refine ah.at_ ?_ rfl
    conv=>whnf
    refine And.intro ?_ ?_<;>conv=>whnf
    all_goals repeat' (first|(refine gV ?_;first|refine vE ?_|refine vI ?_|(refine WkN.norm ?_ ?_;(focus (simp[AV.norm,AV.ao,hM,g2,Gl.av,Tm.gz,Tm.avw,AV.norm,AV.az,AV.ao];done))))|refine gX (xB ?_)|exact True.intro)<;>conv=>whnf
   .clear hM;rintro j ⟨q1,q2⟩
    by_cases hj:j<M.length
    .obtain ⟨x,hx⟩:∃x,M[j]? =some x:=⟨_,zA hj⟩;rw[zH hj,(zB.1 hx).2,List.any_cons] at q2;have hs:=bu (a:=x) (b:=g)
     cases hc:x.same g with
     |true=>
      rw[hc] at hs;rw[hc,Bool.true_or] at q2;rw[<-q2]
      conv=>whnf
      repeat' (first|refine gG (al.fn (hs) ?_)|(refine gC ?_;first|refine cY ?_|refine gD (cI ?_))|refine gL (.map ?_)|refine gI (gM (iE ?_))|refine ae.nrm ?_)<;>conv=>whnf
     |false=>
      rw[hc] at hs;rw[hc,Bool.false_or] at q2
      conv=>whnf
      repeat' (first|refine gG (al.fn (hs) ?_)|(refine gC ?_;first|refine cN ?_|refine gD (cI ?_))|refine gW (wI ?_)|refine gL (.map ?_)|refine gI (gM (iE ?_)))<;>conv=>whnf
      refine⟨j+1,⟨⟨hj,q2⟩,by omega⟩,?_⟩
      exact aH
    .obtain rfl:j=M.length:=by omega
     rw[zj,List.any_nil] at q2;rw[<-q2]
     conv=>whnf
     repeat' (first|refine gC (gD (cJ ?_))|refine gL (.map ?_)|refine ae.nrm ?_)<;>conv=>whnf
  .refine ax.by (fb:=true) (λ_ (j:Nat)=>⟨[(3,.ptr 0 0),(5,.sl .no (M.map Gl.av)),(8,.int .i64 (j:Int))],[.cells [.int .i64 g.op,.str g.name,.sl .no (g.args.map Tm.av)]],0⟩) (λj=>j<=M.length/\((M.drop j).any λx=>x.same g)=M.any λx=>x.same g) (λj=>M.length-j) 0 ⟨zJ _,rfl⟩ ?_ ?_
   .refine ah.lay [some 1] oko ?_
    conv=>whnf
    refine ah.at_ ?_ rfl
    conv=>whnf
    refine And.intro ?_ ?_<;>conv=>whnf
    all_goals repeat' (first|(refine gV ?_;first|refine vE ?_|refine vI ?_|(refine WkN.norm ?_ ?_;(focus (simp[AV.norm,AV.ao,hM,g2,Gl.av,Tm.gz,Tm.avw,AV.norm,AV.az,AV.ao];done))))|refine gX (xB ?_)|exact True.intro)<;>conv=>whnf
   .clear hM;rintro j ⟨q1,q2⟩
    by_cases hj:j<M.length
    .obtain ⟨x,hx⟩:∃x,M[j]? =some x:=⟨_,zA hj⟩;rw[zH hj,(zB.1 hx).2,List.any_cons] at q2;have hs:=bu (a:=x) (b:=g)
     cases hc:x.same g with
     |true=>
      rw[hc] at hs;rw[hc,Bool.true_or] at q2;rw[<-q2]
      conv=>whnf
      repeat' (first|refine gG (al.fn (hs) ?_)|(refine gC ?_;first|refine cY ?_|refine gD (cI ?_))|refine gL (.map ?_)|refine gI (gM (iE ?_))|refine ae.nrm ?_)<;>conv=>whnf
     |false=>
      rw[hc] at hs;rw[hc,Bool.false_or] at q2
      conv=>whnf
      repeat' (first|refine gG (al.fn (hs) ?_)|(refine gC ?_;first|refine cN ?_|refine gD (cI ?_))|refine gW (wI ?_)|refine gL (.map ?_)|refine gI (gM (iE ?_)))<;>conv=>whnf
      refine⟨j+1,⟨⟨hj,q2⟩,by omega⟩,?_⟩
      exact aH
    .obtain rfl:j=M.length:=by omega
     rw[zj,List.any_nil] at q2;rw[<-q2]
     conv=>whnf
     repeat' (first|refine gC (gD (cJ ?_))|refine gL (.map ?_)|refine ae.nrm ?_)<;>conv=>whnf
end Go.CK
set_option maxRecDepth 100000
namespace Go.CK
open Go.AM Go.Proofs
def y7(n:Int):Tm:=.mk 0 n ⟨⟨[]⟩⟩ []
theorem JB(n:Int):Fun Tryz.prog 37 [.int .i64 n] (bX n).avw:=by
 refine Fun.of (nI (by simp) ?_) rfl rfl
 conv=>whnf
 repeat' refine ae.nrm ?_<;>conv=>whnf
 all_goals rfl
theorem EC(n:Int):Fun Tryz.prog 38 [.int .i64 n] (y7 n).avw:=by
 refine Fun.of (nJ (by simp) ?_) rfl rfl
 conv=>whnf
 repeat' refine ae.nrm ?_<;>conv=>whnf
 all_goals rfl
theorem x1:aQ (g2 7 (y7 3) (y7 5))=1:=by
 unfold aQ;generalize uni _ _=u;cases u<;>kernel_rfl
theorem x2:aQ (g2 6 (bX 0) (bX 0))=2:=by
 unfold aQ;generalize uni _ _=u;cases u<;>kernel_rfl
end Go.CK
set_option maxRecDepth 100000
namespace Go.CK
open Go.AM Go.Proofs
theorem qW{g:Gl}(h:g.test=true):g.right=true:=by
 unfold Gl.test at h;rw[zD] at h;exact h.2
theorem vg{g:Gl}(h:g.right=true)(h0:¬g.op=0):(0<g.op/\g.op<=12)/\g.name=⟨⟨[]⟩⟩/\(g.args.length:Int)=arG g.op/\vLB 200 20 g.args=true:=by
 unfold Gl.right at h;rw[if_neg h0] at h;simp only[zD,decide_eq_true_eq] at h;exact h
theorem JK{l:List Tm}(h:vLB 200 20 l=true):∀x∈l,x.right=true:=by
 rw[<-LM] at h;unfold raB at h;rw[zD,zS] at h;exact h.1
theorem cg{g:Gl}(h:g.test=true):(5<=g.op/\g.op<=12)/\g.name=⟨⟨[]⟩⟩/\(g.args.length:Int)=arG g.op/\vLB 200 20 g.args=true:=by
 have h1:=wV h;have h2:=vg (qW h) (by omega)
 exact⟨h1.1,h2.2⟩
theorem cd{g:Gl}(h:g.test=true){i:Nat}(hi:i<g.args.length):(arg g i).right=true:=JK (cg h).2.2.2 _ (zE (je hi))
theorem tf{g:Gl}(h:g.test=true)(h2:g.op<=10):g.args.length=2:=by
 obtain⟨h1,_,h3,_⟩:=cg h;unfold arG at h3;rw[if_neg (by omega),if_neg (by omega)] at h3
 omega
theorem DX{g:Gl}(h:g.test=true)(h2:¬g.op<=10):g.args.length=1:=by
 obtain⟨h1,_,h3,_⟩:=cg h;unfold arG at h3;rw[if_neg (by omega),if_pos (by omega)] at h3
 omega
theorem AZ{g:Gl}(h:g.args.length=2):g.args=[arg g 0,arg g 1]:=by
 obtain⟨o,n,l⟩:=g
 match l,h with
 |[x,y],_=>rfl
theorem wy{q:Int}{x y:Tm}{g:Gl}(hn:g.name=⟨⟨[]⟩⟩):(g2 q x y).same g=(decide (q=g.op)&&(decide (g.args.length=2)&&(decide (x.cmp (arg g 0)=0)&&decide (y.cmp (arg g 1)=0)))):=by
 unfold Gl.same g2;rw[hn]
 by_cases h:g.args.length=2
 .rw [AZ h];simp only[Tm.eD,zX,ZQ,decide_true,za];congr 1;rw[Bool.eq_iff_iff];simp only[decide_eq_true_eq,zD,J4,jb];constructor
  .rintro ⟨h1,h2,_⟩;exact⟨h1,h2⟩
  .rintro ⟨h1,h2⟩;exact⟨h1,h2,by simp⟩
 .have h1:¬([x,y].length=g.args.length):=λe=>h e.symm;rw[decide_eq_false h,decide_eq_false h1];simp
theorem Me(a:Gl):a∈lZ a:=by
 unfold lZ
 repeat' split
 all_goals simp
theorem Kt(a g:Gl):oF a g=Og a g:=by
 unfold oF Og
 cases hta:a.test with
 |false=>simp
 |true=>
 cases htg:g.test with
 |false=>simp
 |true=>
 rw[if_pos ⟨rfl,rfl⟩,za,za]
 cases hs:a.same g with
 |true=>
  rw[if_pos rfl]
  exact(List.any_eq_true.2 ⟨a,Me a,hs⟩).symm
 |false=>
 rw[if_neg Za];obtain⟨hop,_,_,_⟩:=cg hta;obtain⟨hog,hn,_,_⟩:=cg htg;unfold lZ
 by_cases h11:a.op<11
 rotate_left
 .rw [if_neg h11,if_neg (λe=>by have:=DX hta (by omega);omega)]
  simp[hs]
 rw[if_pos h11];have h2:=tf hta (by omega)
 by_cases hg:g.op<=10
 rotate_left
 .have hg1:=DX htg hg;have hd:decide (g.args.length=2)=false:=decide_eq_false (by omega)
  rw[if_neg (λe=>by omega)]
  repeat' split
  all_goals simp[hs,wy hn,hd,hg1]
 have h3:=tf htg hg;rw[if_pos ⟨h2,h3⟩];unfold Ll MR ruB;have hd:decide (g.args.length=2)=true:=decide_eq_true h3
 by_cases h7:a.op=7
 .rw [if_pos h7];simp only[List.any_cons,List.any_nil,hs,wy hn,hd,h7,Bool.false_or,Bool.or_false,za];generalize decide ((arg a 0).cmp (arg g 0)=0)=b00;generalize decide ((arg a 1).cmp (arg g 1)=0)=b11;generalize decide ((arg a 0).cmp (arg g 1)=0)=b01;generalize decide ((arg a 1).cmp (arg g 0)=0)=b10;rw[Bool.eq_iff_iff];simp only[ZN,zD,decide_eq_true_eq];cases b00<;>cases b11<;>cases b01<;>cases b10<;>simp<;>omega
 rw[if_neg h7]
 by_cases h9:a.op=9
 .rw [if_pos h9];simp only[List.any_cons,List.any_nil,hs,wy hn,hd,h9,Bool.false_or,Bool.or_false,za];generalize decide ((arg a 0).cmp (arg g 0)=0)=b00;generalize decide ((arg a 1).cmp (arg g 1)=0)=b11;generalize decide ((arg a 0).cmp (arg g 1)=0)=b01;generalize decide ((arg a 1).cmp (arg g 0)=0)=b10;rw[Bool.eq_iff_iff];simp only[ZN,zD,decide_eq_true_eq];cases b00<;>cases b11<;>cases b01<;>cases b10<;>simp<;>omega
 rw[if_neg h9]
 by_cases h10:a.op=10\/a.op=5\/a.op=6
 .rw [if_pos h10];simp only[List.any_cons,List.any_nil,hs,wy hn,hd,Bool.false_or,Bool.or_false,za];generalize decide ((arg a 0).cmp (arg g 0)=0)=b00;generalize decide ((arg a 1).cmp (arg g 1)=0)=b11;generalize decide ((arg a 0).cmp (arg g 1)=0)=b01;generalize decide ((arg a 1).cmp (arg g 0)=0)=b10;rw[Bool.eq_iff_iff];simp only[ZN,zD,decide_eq_true_eq];cases b00<;>cases b11<;>cases b01<;>cases b10<;>simp<;>omega
 .rw [if_neg h10];simp only[List.any_cons,List.any_nil,hs,Bool.false_or,Bool.or_false];generalize decide ((arg a 0).cmp (arg g 0)=0)=b00;generalize decide ((arg a 1).cmp (arg g 1)=0)=b11;generalize decide ((arg a 0).cmp (arg g 1)=0)=b01;generalize decide ((arg a 1).cmp (arg g 0)=0)=b10;rw[Bool.eq_iff_iff];simp only[ZN,zD,decide_eq_true_eq];cases b00<;>cases b11<;>cases b01<;>cases b10<;>simp<;>omega
theorem PN{b:Bool}:uS b=1↔b=true:=by cases b<;>simp[uS]
theorem D8(b:Bool):uS b=1\/uS b=2:=by cases b<;>simp[uS]
theorem wQ(a b:Tm):cU b a=((cU a b).2.1,(cU a b).1,(cU a b).2.2):=by
 unfold cU;cases a.i7<;>cases b.i7<;>cases a.gnd<;>cases b.gnd<;>simp[and_comm]
theorem Jq{op:Int}{a b:Tm}:mR op a b=1↔(cU a b).2.2=1/\Eb op (cU a b).1 (cU a b).2.1=true:=by
 unfold mR
 by_cases h:(cU a b).2.2=1
 .rw [if_pos h,PN];exact⟨λe=>⟨h,e⟩,λe=>e.2⟩
 .rw [if_neg h];exact⟨λe=>absurd e h,λe=>absurd e.1 h⟩
theorem jI{op:Int}(h:7<=op/\op<=10)(a b:Tm)(u:Bool):og op a b u=mR op a b:=by
 unfold og;rw[if_neg (by omega),if_neg (by omega),if_neg (by omega)]
theorem fU{g:Gl}(h:g.test=true):aQ g=og g.op (arg g 0) (arg g 1) (uni (arg g 0) (arg g 1)):=by
 unfold aQ BP;rw[if_pos h]
theorem wq{a b:Tm}(ha:a.right=true)(hb:b.right=true)(hN:a.nodes+b.nodes<=100000000):uni a b=true↔∃σ,app σ a=app σ b:=by
 obtain⟨m,e,h1,h2⟩:=II (a:=[a]) (b:=[b]) (by simp only[Tm.aj];omega)
 have hu:uni a b=jR e:=by unfold uni;rw[h1]
 rw[hu];rcases LA h2 ha hb with ⟨hn,_,h0⟩|⟨M,hM,⟨_,_,h0⟩|⟨_,_,h0⟩⟩
 .rw [h0];exact⟨(λe=>by cases e),λ⟨σ,hσ⟩=>absurd (D5.2 hσ) (hn σ)⟩
 .rw [h0];exact⟨λ_=>⟨M,D5.1 hM.sol⟩,λ_=>rfl⟩
 .rw [h0];exact⟨λ_=>⟨M,D5.1 hM.sol⟩,λ_=>rfl⟩
theorem EI{a b:Tm}(ha:a.right=true)(hb:b.right=true)(hN:a.nodes+b.nodes<=100000000):uni a b=uni b a:=by
 rw[Bool.eq_iff_iff,wq ha hb hN,wq hb ha (by omega)]
 exact⟨λ⟨σ,h⟩=>⟨σ,h.symm⟩,λ⟨σ,h⟩=>⟨σ,h.symm⟩⟩
theorem gY{a b:Tm}(ha:a.form=true)(hb:b.form=true):a.cmp b=0↔a=b:=⟨AG a b ha hb,λe=>by rw[e];exact Tm.tD _⟩
theorem Of{a g:Gl}(hN:Tm.aj a.args<=90000)(h:oF a g=true)(h1:aQ a=1):aQ g=1:=by
 unfold oF at h;split at h
 rotate_left
 .cases h
 rename_i ht;obtain⟨hta,htg⟩:=ht;obtain⟨hop,hna,hla,hva⟩:=cg hta;obtain⟨hog,hng,hlg,hvg⟩:=cg htg;rw[fU hta] at h1;rw[fU htg];split at h
 .rename_i hs;unfold Gl.same at hs;simp only[zD,decide_eq_true_eq] at hs;obtain⟨e1,_,_,e4⟩:=hs;have fa:Tm.b5 a.args=true:=by unfold vLB at hva;rw[zD] at hva;exact hva.1
  have fg:Tm.b5 g.args=true:=by unfold vLB at hvg;rw[zD] at hvg;exact hvg.1
  have e5:=wF a.args g.args (λx _ b=>AG x b) fa fg e4;have ea:∀i,arg g i=arg a i:=λi=>by unfold arg;rw[e5]
  rw[ea,ea,<-e1];exact h1
 .split at h
  rotate_left
  .cases h
  rename_i h2;obtain⟨h2,h3⟩:=h2;have a0:=cd hta (i:=0) (by omega)
  have a1:=cd hta (i:=1) (by omega)
  have g0:=cd htg (i:=0) (by omega)
  have g1:=cd htg (i:=1) (by omega)
  have n0:=dF a 0;have n1:=dF a 1;unfold Ll MR at h;simp only[ZN,zD,decide_eq_true_eq] at h;rw[gY (aK a0) (aK g0),gY (aK a1) (aK g1),gY (aK a0) (aK g1),gY (aK a1) (aK g0)] at h;rcases h with ⟨⟨e1,e2⟩,h⟩|⟨⟨e1,e2⟩,h⟩
  .rw [<-e1,<-e2];simp only[ruB,decide_eq_true_eq] at h;rw[jI (by omega)] at h1|-
   rw[Jq] at h1|-;refine⟨h1.1,?_⟩;have h4:=h1.2;unfold Eb at h4|-;rcases h with ⟨q1,q2⟩|⟨q1,q2⟩|⟨q1,q2⟩<;>rw[q1] at h4<;>rw[q2]<;>simp at h4|-<;>omega
  .rw [<-e1,<-e2];simp only[ruB,decide_eq_true_eq] at h
   by_cases h7:7<=a.op
   .rw [jI (by omega)] at h1|-
    rw[Jq] at h1|-;rw[wQ];refine⟨h1.1,?_⟩;have h4:=h1.2;unfold Eb at h4|-;rcases h with ⟨q1,q2⟩|⟨q1,q2⟩|⟨q1,q2⟩|⟨q1,q2⟩|⟨q1,q2⟩|⟨q1,q2⟩<;>rw[q1] at h4<;>rw[q2]<;>simp at h4|-<;>omega
   .rw [EI (a:=arg a 1) a1 a0 (by omega)]
    have hcs:(arg a 1).cmp (arg a 0)=0↔(arg a 0).cmp (arg a 1)=0:=⟨tC _ _,tC _ _⟩;have e6:g.op=a.op:=by omega
    rw[e6];unfold og at h1|-;rw[if_neg (by omega),if_neg (by omega),if_pos (by omega)] at h1|-
    simp only[hcs];exact h1
end Go.CK
set_option maxRecDepth 100000
namespace Go.CK
open Go.AM Go.Proofs
theorem Mr{l:List Tm}{most:Int}(b1:-1<=most)(b2:most<=100000):Fun Tryz.prog 46 [slA Tm.av l,.int .i64 most] (.bool (decide (bH l most 64<0))):=by
 have hw:=wM (l:=l) (left:=most) (deep:=64) (by omega) (by omega) (by omega) (by omega)
 refine Fun.of (lR (by simp) ?_) rfl rfl
 conv=>whnf
 repeat' (first|refine gF (aa.fn (hw) ?_)|refine ae.nrm ?_)<;>conv=>whnf
 all_goals rfl
theorem Mj:∀{b:List Bnd} {v:Int} {t:Tm},bR b v=some t->∃x∈b,x.t=t:=λh=>⟨_,Cs h,rfl⟩
mutual
theorem Im{b:List Bnd}{K:Nat}(hK:1<=K)(hb:∀x∈b,x.t.nodes<=K):∀t:Tm,(db b t).nodes<=K*t.nodes
 |.mk k n s l=>by
  have hl:=pO hK hb l;have hm:K*(Tm.mk k n s l).nodes=K*Tm.aj l+K:=by rw[Tm.nodes,Nat.mul_add,Nat.mul_one]
  rw[hm]
  by_cases h1:k=1
  .rw [Ep (t:=.mk k n s l) h1];split
   .rename_i x hx;obtain⟨y,hy,e⟩:=Mj hx;have:=hb y hy;rw[e] at this;omega
   .have:=Nat.le_mul_of_pos_left (Tm.aj l) (show 0<K by omega)
    rw[Tm.nodes];omega
  .by_cases h2:k=2
   .rw [r7 (t:=.mk k n s l) h2];rw[jP] at hl;show (Tm.mk k n s (l.map (db b))).nodes<=_;rw[Tm.nodes];omega
   .rw [r6 (t:=.mk k n s l) h1 h2];have:=Nat.le_mul_of_pos_left (Tm.aj l) (show 0<K by omega)
    rw[Tm.nodes];omega
theorem pO{b:List Bnd}{K:Nat}(hK:1<=K)(hb:∀x∈b,x.t.nodes<=K):∀l:List Tm,Tm.aj (ot b l)<=K*Tm.aj l
 |[]=>by simp[ot,Tm.aj]
 |t::r=>by
  have h1:=Im hK hb t;have h2:=pO hK hb r;simp only[ot,Tm.aj];rw[Nat.mul_add];omega
end
theorem r8{b:List Bnd}{K:Nat}(hK:1<=K)(hb:∀x∈b,x.t.nodes<=K)(g:Gl):Tm.aj (bh b g).args<=K*Tm.aj g.args:=by
 have:=pO hK hb g.args;rw[jP] at this;exact this
theorem Oo(op:Int)(a b:Tm):mR op a b=0\/mR op a b=1\/mR op a b=2:=by
 unfold mR;split
 .exact .inr (D8 _)
 .unfold cU;split
  .split
   .exact .inr (D8 _)
   .exact .inl rfl
  .exact .inr (.inr rfl)
theorem ni(g:Gl):aQ g=0\/aQ g=1\/aQ g=2:=by
 unfold aQ BP og
 repeat' split
 all_goals first|exact .inl rfl|exact .inr (.inl rfl)|exact .inr (D8 _)|exact Oo _ _ _
end Go.CK
set_option maxRecDepth 100000
namespace Go.CK
open Go.AM Go.Proofs
theorem KV{b:List Bnd}{t:Tm}(h:¬t.kind=1):(db b t).kind=t.kind:=by
 by_cases h2:t.kind=2
 .rw [r7 h2];rfl
 .rw [r6 h h2]
mutual
theorem tG{b:List Bnd}:∀t:Tm,t.vs=[]->db b t=t
 |.mk k n s l,h=>by
  rw[Tm.vs] at h
  by_cases h1:k=1
  .rw [if_pos h1] at h;cases h
  rw[if_neg h1] at h
  by_cases h2:k=2
  .rw [if_pos h2] at h;have:=C4 (b:=b) l h;rw[jP] at this;rw[r7 (t:=.mk k n s l) h2];show Tm.mk k n s (l.map (db b))=_;rw[this]
  .rw [r6 (t:=.mk k n s l) h1 h2]
theorem C4{b:List Bnd}:∀l:List Tm,Tm.vss l=[]->ot b l=l
 |[],_=>by simp[ot]
 |t::r,h=>by
  simp only[Tm.vss,List.append_eq_nil_iff] at h;simp only[ot];rw[tG t h.1,C4 r h.2]
end
mutual
theorem xX{b:List Bnd}:∀t:Tm,(db b t).i7=true->t.i7=true
 |.mk k n s l,h=>by
  by_cases h1:k=0\/k=1
  .exact IZ (t:=.mk k n s l) h1
  by_cases h2:k=2
  .rw [r7 (t:=.mk k n s l) h2] at h;have h:(Tm.mk k n s (l.map (db b))).i7=true:=h;rw[Hz (t:=.mk k n s (l.map (db b))) h2] at h;rw[Hz (t:=.mk k n s l) h2];simp only[Tm.name,Tm.args,zF,zD] at h|-;rw[<-jP] at h;exact⟨h.1,h.2.1,Ce l h.2.2⟩
  .rw [r6 (t:=.mk k n s l) (λe=>h1 (.inr e)) h2] at h;exact h
theorem Ce{b:List Bnd}:∀l:List Tm,Tm.vn (ot b l)=true->Tm.vn l=true
 |[],_=>rfl
 |t::r,h=>by
  simp only[ot,Tm.vn,zD] at h|-;exact⟨xX t h.1,Ce r h.2⟩
end
theorem k7{b:List Bnd}{g:Gl}{i:Nat}(h:i<g.args.length):arg (bh b g) i=db b (arg g i):=by
 have h1:=je h;have h2:=je (g:=bh b g) (i:=i) (by show i<(g.args.map _).length;rw[zF];exact h)
 have h3:(bh b g).args[i]? =some (db b (arg g i)):=by show (g.args.map _)[i]? =_;rw[ZF,h1];rfl
 rw[h3] at h2;exact(yT h2).symm
theorem G5{b:List Bnd}{g:Gl}(hb:∀x∈b,x.t.nodes<=200)(hN:Tm.aj g.args<=1000)(hr:g.right=true)(hh:(bh b g).right=true):aQ g=0\/aQ (bh b g)=aQ g:=by
 have hNh:=r8 (K:=200) (by decide) hb g
 cases ht:g.test with
 |false=>
  have hth:(bh b g).test=false:=by
   unfold Gl.test at ht|-;rw[hr,Bool.and_true] at ht;rw[hh,Bool.and_true];exact ht
  refine .inr ?_;unfold aQ BP
  rw[ht,hth,hr,hh];rfl
 |true=>
 have hth:(bh b g).test=true:=by
  unfold Gl.test at ht|-;rw[hr,Bool.and_true] at ht;rw[hh,Bool.and_true];exact ht
 obtain⟨hop,hn,hl,hv⟩:=cg ht;rw[fU ht,fU hth];show _\/og g.op _ _ _=_
 have h0:0<g.args.length:=by
  by_cases hq:g.op<=10
  .have:=tf ht hq;omega
  .have:=DX ht hq;omega
 rw[k7 h0]
 by_cases h11:g.op=11
 .unfold og;rw[if_pos h11,if_pos h11]
  by_cases hk:(arg g 0).kind=1
  .rw [if_pos hk];exact .inl rfl
  .rw [KV hk];exact .inr rfl
 by_cases h12:g.op=12
 .unfold og;rw[if_neg h11,if_pos h12,if_neg h11,if_pos h12]
  by_cases hk:(arg g 0).gnd=true
  .have:=hk;unfold Tm.gnd at this;rw[decide_eq_true_eq] at this;rw[tG _ this];exact .inr rfl
  .rw [if_neg hk];exact .inl rfl
 have h2:=tf ht (by omega)
 have h2h:=tf hth (by show g.op<=10;omega)
 rw[k7 (i:=1) (by omega)]
 have a0:=cd ht (i:=0) (by omega)
 have a1:=cd ht (i:=1) (by omega)
 have c0:=cd hth (i:=0) (by omega)
 have c1:=cd hth (i:=1) (by omega)
 have n0:=dF g 0;have n1:=dF g 1;have m0:=dF (bh b g) 0;have m1:=dF (bh b g) 1;rw[k7 h0] at c0 m0;rw[k7 (i:=1) (by omega)] at c1 m1
 generalize arg g 0=x at*;generalize arg g 1=y at*
 by_cases h56:g.op=5\/g.op=6
 .unfold og;rw[if_neg h11,if_neg h12,if_pos h56,if_neg h11,if_neg h12,if_pos h56]
  by_cases hc:x.cmp y=0
  .rw [gY (aK a0) (aK a1)] at hc;subst hc;rw[if_pos (Tm.tD _),if_pos (Tm.tD _)];exact .inr rfl
  rw[if_neg hc]
  cases hu:uni x y with
  |true=>exact .inl rfl
  |false=>
   have hno:∀σ,¬app σ x=app σ y:=λσ e=>by
    have:=(wq a0 a1 (by omega)).2 ⟨σ,e⟩
    rw[hu] at this;cases this
   have ex:=GF b x (nX x (aK a0));have ey:=GF b y (nX y (aK a1))
   have hc2:¬(db b x).cmp (db b y)=0:=λe=>by
    rw[gY (aK c0) (aK c1),ex,ey] at e;exact hno _ e
   have hu2:uni (db b x) (db b y)=false:=by
    rw[Bool.eq_false_iff];intro e;obtain⟨σ,hσ⟩:=(wq c0 c1 (by omega)).1 e
    rw[ex,ey,Jy,Jy] at hσ;exact hno _ hσ
   rw[if_neg hc2,hu2];exact .inr rfl
 .rw [jI (by omega),jI (by omega)]
  unfold mR cU
  by_cases hnn:x.i7=true/\y.i7=true
  .rw [if_pos hnn]
   by_cases hgg:x.gnd=true/\y.gnd=true
   .have g0:=hgg.1;have g1:=hgg.2;unfold Tm.gnd at g0 g1;rw[decide_eq_true_eq] at g0 g1;rw[tG _ g0,tG _ g1,if_pos hnn,if_pos hgg];exact .inr rfl
   .rw [if_neg hgg];exact .inl rfl
  .have hn2:¬((db b x).i7=true/\(db b y).i7=true):=λe=>hnn ⟨xX _ e.1,xX _ e.2⟩;rw[if_neg hnn,if_neg hn2];exact .inr rfl
end Go.CK
