/-
  Texts of this aQ joined (wip/gen/bundle.py),those declarations only that are needed:AskI AskJ AskK AskL AskM AskN FunC. By an AI agent.
-/
import Derived.Test.YtahnpgfkkngimaaGreatBdc
set_option linter.unusedSimpArgs false
set_option linter.unusedVariables false
set_option maxRecDepth 100000
namespace Go.CK
open Go.AM Go.Proofs
def g2(op:Int)(x y:Tm):Gl:=⟨op,⟨⟨[]⟩⟩,[x,y]⟩
theorem Qa(op:Int)(x y:Tm):Fun Tryz.prog 69 [.int .i64 op,x.avw,y.avw] (g2 op x y).av:=by
 refine Fun.of (P9 (by simp) ?_) rfl rfl
 conv=>whnf
 repeat' refine af.nrm ?_<;>conv=>whnf
 all_goals (simp[g2,Gl.av,Tm.nK,Tm.avw])
def P7(a:Gl):List Gl:=if a.op<11 then
  (if a.op=7 then [a,g2 8 (arg a 0) (arg a 1),g2 10 (arg a 0) (arg a 1),g2 10 (arg a 1) (arg a 0)]
  else if a.op=9 then [a,g2 8 (arg a 0) (arg a 1),g2 8 (arg a 1) (arg a 0),g2 9 (arg a 1) (arg a 0)]
  else if a.op=10\/a.op=5\/a.op=6 then [a,g2 a.op (arg a 1) (arg a 0)]
  else [a])
 else [a]
def Qr(a g:Gl):Bool:=a.test&&(g.test&&(P7 a).any λx=>x.same g)
set_option maxHeartbeats 4000000 in
theorem Qd(a g:Gl)(hNa:Tm.ai a.args<=10000)(hNg:Tm.ai g.args<=10000)(hla:a.args.length<=4000000000)(hlg:g.args.length<=4000000000):Fun Tryz.prog 27 [a.av,g.av] (.bool (Qr a g)):=by
 have ta:=Ov a (by omega) (by omega)
 have tg:=Ov g (by omega) (by omega)
 unfold Qr
 cases hta:a.test with
 |false=>
  rw[hta] at ta;refine Fun.of (l0 (by simp) ?_) rfl rfl
  conv=>whnf
  repeat' (first|refine gF (ab.fn (ta) ?_)|(refine gC ?_;first|refine cY ?_|refine cN ?_|refine .not ?_)|refine af.nrm ?_)<;>conv=>whnf
  all_goals rfl
 |true=>
 rw[hta] at ta
 cases htg:g.test with
 |false=>
  rw[htg] at tg;refine Fun.of (l0 (by simp) ?_) rfl rfl
  conv=>whnf
  repeat' (first|(refine gF ?_;first|refine ab.fn (ta) ?_|refine ab.fn (tg) ?_)|(refine gC ?_;first|refine cY ?_|refine cN ?_|refine .not ?_)|refine af.nrm ?_)<;>conv=>whnf
  all_goals rfl
 |true=>
 rw[htg] at tg;rw[Za,Za];obtain⟨hop,hlen⟩:=NV hta
 have hMl:(P7 a).length<=4:=by
  unfold P7;repeat' split
  all_goals simp
 by_cases h11:a.op<11
 rotate_left
 .have hM:P7 a=[a]:=by unfold P7;rw[if_neg h11]
  generalize P7 a=M at hM hMl|-;refine Fun.of (l0 (by simp) ?_) rfl rfl
  conv=>whnf
  repeat' (first|(refine gF ?_;first|refine ab.fn (ta) ?_|refine ab.fn (tg) ?_)|(refine gC ?_;first|refine cY ?_|refine .not ?_|refine gD (cJ ?_)))<;>conv=>whnf
  refine aw.by (fb:=true) (λ_ (j:Nat)=>⟨[(3,.ptr 0 0),(5,.sl .no (M.map Gl.av)),(8,.int .i64 (j:Int))],[.cells [.int .i64 g.op,.str g.name,.sl .no (g.args.map Tm.av)]],0⟩) (λj=>j<=M.length/\((M.drop j).any λx=>x.same g)=M.any λx=>x.same g) (λj=>M.length-j) 0 ⟨ZJ _,rfl⟩ ?_ ?_
  .refine ah.lay [some 1] oko ?_
   conv=>whnf
   refine ah.at_ ?_ rfl
   conv=>whnf
   refine And.intro ?_ ?_<;>conv=>whnf
   all_goals repeat' (first|(refine gV ?_;first|refine vE ?_|refine vI ?_|(refine WkN.norm ?_ ?_;(focus (simp[AV.norm,AV.aD,hM,g2,Gl.av,Tm.nK,Tm.avw,AV.norm,AV.aF,AV.aD];done))))|refine gX (xB ?_)|exact True.intro)<;>conv=>whnf
  .clear hM;rintro j ⟨q1,q2⟩
   by_cases hj:j<M.length
   .obtain ⟨x,hx⟩:∃x,M[j]? =some x:=⟨_,ZA hj⟩;rw[ZH hj,(ZB.1 hx).2,List.any_cons] at q2;have hs:=P0 (a:=x) (b:=g)
    cases hc:x.same g with
    |true=>
     rw[hc] at hs;rw[hc,Bool.true_or] at q2;rw[<-q2]
     conv=>whnf
     repeat' (first|refine gG (aM.fn (hs) ?_)|(refine gC ?_;first|refine cY ?_|refine gD (cI ?_))|refine gL (.map ?_)|refine gI (gM (iE ?_))|refine af.nrm ?_)<;>conv=>whnf
    |false=>
     rw[hc] at hs;rw[hc,Bool.false_or] at q2
     conv=>whnf
     repeat' (first|refine gG (aM.fn (hs) ?_)|(refine gC ?_;first|refine cN ?_|refine gD (cI ?_))|refine gW (wI ?_)|refine gL (.map ?_)|refine gI (gM (iE ?_)))<;>conv=>whnf
     refine⟨j+1,⟨⟨hj,q2⟩,by omega⟩,?_⟩
     exact au
   .obtain rfl:j=M.length:=by omega
    rw[Zj,List.any_nil] at q2;rw[<-q2]
    conv=>whnf
    repeat' (first|refine gC (gD (cJ ?_))|refine gL (.map ?_)|refine af.nrm ?_)<;>conv=>whnf
 have h2:a.args.length=2:=by unfold arG at hlen;rw[if_neg (by omega),if_neg (by omega)] at hlen;omega
 have a0:=MK (g:=a) (i:=0) (by omega)
 have a1:=MK (g:=a) (i:=1) (by omega)
 by_cases h7:a.op=7
 .have hM:P7 a=[a,g2 8 (arg a 0) (arg a 1),g2 10 (arg a 0) (arg a 1),g2 10 (arg a 1) (arg a 0)]:=by unfold P7;rw[if_pos h11,if_pos h7]
  generalize P7 a=M at hM hMl|-;have c1:=Qa 8 (arg a 0) (arg a 1);have c2:=Qa 10 (arg a 0) (arg a 1);have c3:=Qa 10 (arg a 1) (arg a 0);refine Fun.of (l0 (by simp) ?_) rfl rfl
  conv=>whnf
  repeat' (first|(refine gF ?_;first|refine ab.fn (ta) ?_|refine ab.fn (tg) ?_)|(refine gG ?_;first|refine aM.fn (c1) ?_|refine aM.fn (c2) ?_|refine aM.fn (c3) ?_)|(refine gC ?_;first|refine cY ?_|refine .not ?_|refine gD (cI ?_))|refine gN (nS ?_)|refine gI (gT (iA ?_))|refine yc.mk ?_ ?_)<;>conv=>whnf
  .refine aw.by (fb:=true) (λ_ (j:Nat)=>⟨[(3,.ptr 0 0),(5,.sl .no (M.map Gl.av)),(8,.int .i64 (j:Int))],[.cells [.int .i64 g.op,.str g.name,.sl .no (g.args.map Tm.av)]],0⟩) (λj=>j<=M.length/\((M.drop j).any λx=>x.same g)=M.any λx=>x.same g) (λj=>M.length-j) 0 ⟨ZJ _,rfl⟩ ?_ ?_
   .refine ah.lay [some 1] oko ?_
    conv=>whnf
    refine ah.at_ ?_ rfl
    conv=>whnf
    refine And.intro ?_ ?_<;>conv=>whnf
    all_goals repeat' (first|(refine gV ?_;first|refine vE ?_|refine vI ?_|(refine WkN.norm ?_ ?_;(focus (simp[AV.norm,AV.aD,hM,g2,Gl.av,Tm.nK,Tm.avw,AV.norm,AV.aF,AV.aD];done))))|refine gX (xB ?_)|exact True.intro)<;>conv=>whnf
   .clear hM;rintro j ⟨q1,q2⟩
    by_cases hj:j<M.length
    .obtain ⟨x,hx⟩:∃x,M[j]? =some x:=⟨_,ZA hj⟩;rw[ZH hj,(ZB.1 hx).2,List.any_cons] at q2;have hs:=P0 (a:=x) (b:=g)
     cases hc:x.same g with
     |true=>
      rw[hc] at hs;rw[hc,Bool.true_or] at q2;rw[<-q2]
      conv=>whnf
      repeat' (first|refine gG (aM.fn (hs) ?_)|(refine gC ?_;first|refine cY ?_|refine gD (cI ?_))|refine gL (.map ?_)|refine gI (gM (iE ?_))|refine af.nrm ?_)<;>conv=>whnf
     |false=>
      rw[hc] at hs;rw[hc,Bool.false_or] at q2
      conv=>whnf
      repeat' (first|refine gG (aM.fn (hs) ?_)|(refine gC ?_;first|refine cN ?_|refine gD (cI ?_))|refine gW (wI ?_)|refine gL (.map ?_)|refine gI (gM (iE ?_)))<;>conv=>whnf
      refine⟨j+1,⟨⟨hj,q2⟩,by omega⟩,?_⟩
      exact au
    .obtain rfl:j=M.length:=by omega
     rw[Zj,List.any_nil] at q2;rw[<-q2]
     conv=>whnf
     repeat' (first|refine gC (gD (cJ ?_))|refine gL (.map ?_)|refine af.nrm ?_)<;>conv=>whnf
  .refine aw.by (fb:=true) (λ_ (j:Nat)=>⟨[(3,.ptr 0 0),(5,.sl .no (M.map Gl.av)),(8,.int .i64 (j:Int))],[.cells [.int .i64 g.op,.str g.name,.sl .no (g.args.map Tm.av)]],0⟩) (λj=>j<=M.length/\((M.drop j).any λx=>x.same g)=M.any λx=>x.same g) (λj=>M.length-j) 0 ⟨ZJ _,rfl⟩ ?_ ?_
   .refine ah.lay [some 1] oko ?_
    conv=>whnf
    refine ah.at_ ?_ rfl
    conv=>whnf
    refine And.intro ?_ ?_<;>conv=>whnf
    all_goals repeat' (first|(refine gV ?_;first|refine vE ?_|refine vI ?_|(refine WkN.norm ?_ ?_;(focus (simp[AV.norm,AV.aD,hM,g2,Gl.av,Tm.nK,Tm.avw,AV.norm,AV.aF,AV.aD];done))))|refine gX (xB ?_)|exact True.intro)<;>conv=>whnf
   .clear hM;rintro j ⟨q1,q2⟩
    by_cases hj:j<M.length
    .obtain ⟨x,hx⟩:∃x,M[j]? =some x:=⟨_,ZA hj⟩;rw[ZH hj,(ZB.1 hx).2,List.any_cons] at q2;have hs:=P0 (a:=x) (b:=g)
     cases hc:x.same g with
     |true=>
      rw[hc] at hs;rw[hc,Bool.true_or] at q2;rw[<-q2]
      conv=>whnf
      repeat' (first|refine gG (aM.fn (hs) ?_)|(refine gC ?_;first|refine cY ?_|refine gD (cI ?_))|refine gL (.map ?_)|refine gI (gM (iE ?_))|refine af.nrm ?_)<;>conv=>whnf
     |false=>
      rw[hc] at hs;rw[hc,Bool.false_or] at q2
      conv=>whnf
      repeat' (first|refine gG (aM.fn (hs) ?_)|(refine gC ?_;first|refine cN ?_|refine gD (cI ?_))|refine gW (wI ?_)|refine gL (.map ?_)|refine gI (gM (iE ?_)))<;>conv=>whnf
      refine⟨j+1,⟨⟨hj,q2⟩,by omega⟩,?_⟩
      exact au
    .obtain rfl:j=M.length:=by omega
     rw[Zj,List.any_nil] at q2;rw[<-q2]
     conv=>whnf
     repeat' (first|refine gC (gD (cJ ?_))|refine gL (.map ?_)|refine af.nrm ?_)<;>conv=>whnf
 by_cases h9:a.op=9
 .have hM:P7 a=[a,g2 8 (arg a 0) (arg a 1),g2 8 (arg a 1) (arg a 0),g2 9 (arg a 1) (arg a 0)]:=by unfold P7;rw[if_pos h11,if_neg h7,if_pos h9]
  generalize P7 a=M at hM hMl|-;have c1:=Qa 8 (arg a 0) (arg a 1);have c2:=Qa 8 (arg a 1) (arg a 0);have c3:=Qa 9 (arg a 1) (arg a 0);refine Fun.of (l0 (by simp) ?_) rfl rfl
  conv=>whnf
  repeat' (first|(refine gF ?_;first|refine ab.fn (ta) ?_|refine ab.fn (tg) ?_)|(refine gG ?_;first|refine aM.fn (c1) ?_|refine aM.fn (c2) ?_|refine aM.fn (c3) ?_)|(refine gC ?_;first|refine cY ?_|refine .not ?_|(refine gD ?_;first|refine cI ?_|refine cJ ?_))|refine gN (nS ?_)|refine gI (gT (iA ?_))|refine yc.mk ?_ ?_)<;>conv=>whnf
  .refine aw.by (fb:=true) (λ_ (j:Nat)=>⟨[(3,.ptr 0 0),(5,.sl .no (M.map Gl.av)),(8,.int .i64 (j:Int))],[.cells [.int .i64 g.op,.str g.name,.sl .no (g.args.map Tm.av)]],0⟩) (λj=>j<=M.length/\((M.drop j).any λx=>x.same g)=M.any λx=>x.same g) (λj=>M.length-j) 0 ⟨ZJ _,rfl⟩ ?_ ?_
   .refine ah.lay [some 1] oko ?_
    conv=>whnf
    refine ah.at_ ?_ rfl
    conv=>whnf
    refine And.intro ?_ ?_<;>conv=>whnf
    all_goals repeat' (first|(refine gV ?_;first|refine vE ?_|refine vI ?_|(refine WkN.norm ?_ ?_;(focus (simp[AV.norm,AV.aD,hM,g2,Gl.av,Tm.nK,Tm.avw,AV.norm,AV.aF,AV.aD];done))))|refine gX (xB ?_)|exact True.intro)<;>conv=>whnf
   .clear hM;rintro j ⟨q1,q2⟩
    by_cases hj:j<M.length
    .obtain ⟨x,hx⟩:∃x,M[j]? =some x:=⟨_,ZA hj⟩;rw[ZH hj,(ZB.1 hx).2,List.any_cons] at q2;have hs:=P0 (a:=x) (b:=g)
     cases hc:x.same g with
     |true=>
      rw[hc] at hs;rw[hc,Bool.true_or] at q2;rw[<-q2]
      conv=>whnf
      repeat' (first|refine gG (aM.fn (hs) ?_)|(refine gC ?_;first|refine cY ?_|refine gD (cI ?_))|refine gL (.map ?_)|refine gI (gM (iE ?_))|refine af.nrm ?_)<;>conv=>whnf
     |false=>
      rw[hc] at hs;rw[hc,Bool.false_or] at q2
      conv=>whnf
      repeat' (first|refine gG (aM.fn (hs) ?_)|(refine gC ?_;first|refine cN ?_|refine gD (cI ?_))|refine gW (wI ?_)|refine gL (.map ?_)|refine gI (gM (iE ?_)))<;>conv=>whnf
      refine⟨j+1,⟨⟨hj,q2⟩,by omega⟩,?_⟩
      exact au
    .obtain rfl:j=M.length:=by omega
     rw[Zj,List.any_nil] at q2;rw[<-q2]
     conv=>whnf
     repeat' (first|refine gC (gD (cJ ?_))|refine gL (.map ?_)|refine af.nrm ?_)<;>conv=>whnf
  .refine aw.by (fb:=true) (λ_ (j:Nat)=>⟨[(3,.ptr 0 0),(5,.sl .no (M.map Gl.av)),(8,.int .i64 (j:Int))],[.cells [.int .i64 g.op,.str g.name,.sl .no (g.args.map Tm.av)]],0⟩) (λj=>j<=M.length/\((M.drop j).any λx=>x.same g)=M.any λx=>x.same g) (λj=>M.length-j) 0 ⟨ZJ _,rfl⟩ ?_ ?_
   .refine ah.lay [some 1] oko ?_
    conv=>whnf
    refine ah.at_ ?_ rfl
    conv=>whnf
    refine And.intro ?_ ?_<;>conv=>whnf
    all_goals repeat' (first|(refine gV ?_;first|refine vE ?_|refine vI ?_|(refine WkN.norm ?_ ?_;(focus (simp[AV.norm,AV.aD,hM,g2,Gl.av,Tm.nK,Tm.avw,AV.norm,AV.aF,AV.aD];done))))|refine gX (xB ?_)|exact True.intro)<;>conv=>whnf
   .clear hM;rintro j ⟨q1,q2⟩
    by_cases hj:j<M.length
    .obtain ⟨x,hx⟩:∃x,M[j]? =some x:=⟨_,ZA hj⟩;rw[ZH hj,(ZB.1 hx).2,List.any_cons] at q2;have hs:=P0 (a:=x) (b:=g)
     cases hc:x.same g with
     |true=>
      rw[hc] at hs;rw[hc,Bool.true_or] at q2;rw[<-q2]
      conv=>whnf
      repeat' (first|refine gG (aM.fn (hs) ?_)|(refine gC ?_;first|refine cY ?_|refine gD (cI ?_))|refine gL (.map ?_)|refine gI (gM (iE ?_))|refine af.nrm ?_)<;>conv=>whnf
     |false=>
      rw[hc] at hs;rw[hc,Bool.false_or] at q2
      conv=>whnf
      repeat' (first|refine gG (aM.fn (hs) ?_)|(refine gC ?_;first|refine cN ?_|refine gD (cI ?_))|refine gW (wI ?_)|refine gL (.map ?_)|refine gI (gM (iE ?_)))<;>conv=>whnf
      refine⟨j+1,⟨⟨hj,q2⟩,by omega⟩,?_⟩
      exact au
    .obtain rfl:j=M.length:=by omega
     rw[Zj,List.any_nil] at q2;rw[<-q2]
     conv=>whnf
     repeat' (first|refine gC (gD (cJ ?_))|refine gL (.map ?_)|refine af.nrm ?_)<;>conv=>whnf
 by_cases h10:a.op=10\/a.op=5\/a.op=6
 .have hM:P7 a=[a,g2 a.op (arg a 1) (arg a 0)]:=by unfold P7;rw[if_pos h11,if_neg h7,if_neg h9,if_pos h10]
  generalize P7 a=M at hM hMl|-;have c1:=Qa a.op (arg a 1) (arg a 0);rcases h10 with h10|h10|h10
  .refine Fun.of (l0 (by simp) ?_) rfl rfl
   conv=>whnf
   repeat' (first|(refine gF ?_;first|refine ab.fn (ta) ?_|refine ab.fn (tg) ?_|refine ab.fn (c1) ?_)|(refine gC ?_;first|refine cY ?_|refine .not ?_|(refine gD ?_;first|refine cI ?_|refine cJ ?_))|refine gN (nS ?_)|refine gI (gT (iA ?_))|refine yc.mk ?_ ?_)<;>conv=>whnf
   .refine aw.by (fb:=true) (λ_ (j:Nat)=>⟨[(3,.ptr 0 0),(5,.sl .no (M.map Gl.av)),(8,.int .i64 (j:Int))],[.cells [.int .i64 g.op,.str g.name,.sl .no (g.args.map Tm.av)]],0⟩) (λj=>j<=M.length/\((M.drop j).any λx=>x.same g)=M.any λx=>x.same g) (λj=>M.length-j) 0 ⟨ZJ _,rfl⟩ ?_ ?_
    .refine ah.lay [some 1] oko ?_
     conv=>whnf
     refine ah.at_ ?_ rfl
     conv=>whnf
     refine And.intro ?_ ?_<;>conv=>whnf
     all_goals repeat' (first|(refine gV ?_;first|refine vE ?_|refine vI ?_|(refine WkN.norm ?_ ?_;(focus (simp[AV.norm,AV.aD,hM,g2,Gl.av,Tm.nK,Tm.avw,AV.norm,AV.aF,AV.aD];done))))|refine gX (xB ?_)|exact True.intro)<;>conv=>whnf
    .clear hM;rintro j ⟨q1,q2⟩
     by_cases hj:j<M.length
     .obtain ⟨x,hx⟩:∃x,M[j]? =some x:=⟨_,ZA hj⟩;rw[ZH hj,(ZB.1 hx).2,List.any_cons] at q2;have hs:=P0 (a:=x) (b:=g)
      cases hc:x.same g with
      |true=>
       rw[hc] at hs;rw[hc,Bool.true_or] at q2;rw[<-q2]
       conv=>whnf
       repeat' (first|refine gG (aM.fn (hs) ?_)|(refine gC ?_;first|refine cY ?_|refine gD (cI ?_))|refine gL (.map ?_)|refine gI (gM (iE ?_))|refine af.nrm ?_)<;>conv=>whnf
      |false=>
       rw[hc] at hs;rw[hc,Bool.false_or] at q2
       conv=>whnf
       repeat' (first|refine gG (aM.fn (hs) ?_)|(refine gC ?_;first|refine cN ?_|refine gD (cI ?_))|refine gW (wI ?_)|refine gL (.map ?_)|refine gI (gM (iE ?_)))<;>conv=>whnf
       refine⟨j+1,⟨⟨hj,q2⟩,by omega⟩,?_⟩
       exact au
     .obtain rfl:j=M.length:=by omega
      rw[Zj,List.any_nil] at q2;rw[<-q2]
      conv=>whnf
      repeat' (first|refine gC (gD (cJ ?_))|refine gL (.map ?_)|refine af.nrm ?_)<;>conv=>whnf
   .refine aw.by (fb:=true) (λ_ (j:Nat)=>⟨[(3,.ptr 0 0),(5,.sl .no (M.map Gl.av)),(8,.int .i64 (j:Int))],[.cells [.int .i64 g.op,.str g.name,.sl .no (g.args.map Tm.av)]],0⟩) (λj=>j<=M.length/\((M.drop j).any λx=>x.same g)=M.any λx=>x.same g) (λj=>M.length-j) 0 ⟨ZJ _,rfl⟩ ?_ ?_
    .refine ah.lay [some 1] oko ?_
     conv=>whnf
     refine ah.at_ ?_ rfl
     conv=>whnf
     refine And.intro ?_ ?_<;>conv=>whnf
     all_goals repeat' (first|(refine gV ?_;first|refine vE ?_|refine vI ?_|(refine WkN.norm ?_ ?_;(focus (simp[AV.norm,AV.aD,hM,g2,Gl.av,Tm.nK,Tm.avw,AV.norm,AV.aF,AV.aD];done))))|refine gX (xB ?_)|exact True.intro)<;>conv=>whnf
    .clear hM;rintro j ⟨q1,q2⟩
     by_cases hj:j<M.length
     .obtain ⟨x,hx⟩:∃x,M[j]? =some x:=⟨_,ZA hj⟩;rw[ZH hj,(ZB.1 hx).2,List.any_cons] at q2;have hs:=P0 (a:=x) (b:=g)
      cases hc:x.same g with
      |true=>
       rw[hc] at hs;rw[hc,Bool.true_or] at q2;rw[<-q2]
       conv=>whnf
       repeat' (first|refine gG (aM.fn (hs) ?_)|(refine gC ?_;first|refine cY ?_|refine gD (cI ?_))|refine gL (.map ?_)|refine gI (gM (iE ?_))|refine af.nrm ?_)<;>conv=>whnf
      |false=>
       rw[hc] at hs;rw[hc,Bool.false_or] at q2
       conv=>whnf
       repeat' (first|refine gG (aM.fn (hs) ?_)|(refine gC ?_;first|refine cN ?_|refine gD (cI ?_))|refine gW (wI ?_)|refine gL (.map ?_)|refine gI (gM (iE ?_)))<;>conv=>whnf
       refine⟨j+1,⟨⟨hj,q2⟩,by omega⟩,?_⟩
       exact au
     .obtain rfl:j=M.length:=by omega
      rw[Zj,List.any_nil] at q2;rw[<-q2]
      conv=>whnf
      repeat' (first|refine gC (gD (cJ ?_))|refine gL (.map ?_)|refine af.nrm ?_)<;>conv=>whnf
  .refine Fun.of (l0 (by simp) ?_) rfl rfl
   conv=>whnf
   repeat' (first|(refine gF ?_;first|refine ab.fn (ta) ?_|refine ab.fn (tg) ?_|refine ab.fn (c1) ?_)|(refine gC ?_;first|refine cY ?_|refine .not ?_|(refine gD ?_;first|refine cI ?_|refine cJ ?_))|refine gN (nS ?_)|refine gI (gT (iA ?_))|refine yc.mk ?_ ?_)<;>conv=>whnf
   .refine aw.by (fb:=true) (λ_ (j:Nat)=>⟨[(3,.ptr 0 0),(5,.sl .no (M.map Gl.av)),(8,.int .i64 (j:Int))],[.cells [.int .i64 g.op,.str g.name,.sl .no (g.args.map Tm.av)]],0⟩) (λj=>j<=M.length/\((M.drop j).any λx=>x.same g)=M.any λx=>x.same g) (λj=>M.length-j) 0 ⟨ZJ _,rfl⟩ ?_ ?_
    .refine ah.lay [some 1] oko ?_
     conv=>whnf
     refine ah.at_ ?_ rfl
     conv=>whnf
     refine And.intro ?_ ?_<;>conv=>whnf
     all_goals repeat' (first|(refine gV ?_;first|refine vE ?_|refine vI ?_|(refine WkN.norm ?_ ?_;(focus (simp[AV.norm,AV.aD,hM,g2,Gl.av,Tm.nK,Tm.avw,AV.norm,AV.aF,AV.aD];done))))|refine gX (xB ?_)|exact True.intro)<;>conv=>whnf
    .clear hM;rintro j ⟨q1,q2⟩
     by_cases hj:j<M.length
     .obtain ⟨x,hx⟩:∃x,M[j]? =some x:=⟨_,ZA hj⟩;rw[ZH hj,(ZB.1 hx).2,List.any_cons] at q2;have hs:=P0 (a:=x) (b:=g)
      cases hc:x.same g with
      |true=>
       rw[hc] at hs;rw[hc,Bool.true_or] at q2;rw[<-q2]
       conv=>whnf
       repeat' (first|refine gG (aM.fn (hs) ?_)|(refine gC ?_;first|refine cY ?_|refine gD (cI ?_))|refine gL (.map ?_)|refine gI (gM (iE ?_))|refine af.nrm ?_)<;>conv=>whnf
      |false=>
       rw[hc] at hs;rw[hc,Bool.false_or] at q2
       conv=>whnf
       repeat' (first|refine gG (aM.fn (hs) ?_)|(refine gC ?_;first|refine cN ?_|refine gD (cI ?_))|refine gW (wI ?_)|refine gL (.map ?_)|refine gI (gM (iE ?_)))<;>conv=>whnf
       refine⟨j+1,⟨⟨hj,q2⟩,by omega⟩,?_⟩
       exact au
     .obtain rfl:j=M.length:=by omega
      rw[Zj,List.any_nil] at q2;rw[<-q2]
      conv=>whnf
      repeat' (first|refine gC (gD (cJ ?_))|refine gL (.map ?_)|refine af.nrm ?_)<;>conv=>whnf
   .refine aw.by (fb:=true) (λ_ (j:Nat)=>⟨[(3,.ptr 0 0),(5,.sl .no (M.map Gl.av)),(8,.int .i64 (j:Int))],[.cells [.int .i64 g.op,.str g.name,.sl .no (g.args.map Tm.av)]],0⟩) (λj=>j<=M.length/\((M.drop j).any λx=>x.same g)=M.any λx=>x.same g) (λj=>M.length-j) 0 ⟨ZJ _,rfl⟩ ?_ ?_
    .refine ah.lay [some 1] oko ?_
     conv=>whnf
     refine ah.at_ ?_ rfl
     conv=>whnf
     refine And.intro ?_ ?_<;>conv=>whnf
     all_goals repeat' (first|(refine gV ?_;first|refine vE ?_|refine vI ?_|(refine WkN.norm ?_ ?_;(focus (simp[AV.norm,AV.aD,hM,g2,Gl.av,Tm.nK,Tm.avw,AV.norm,AV.aF,AV.aD];done))))|refine gX (xB ?_)|exact True.intro)<;>conv=>whnf
    .clear hM;rintro j ⟨q1,q2⟩
     by_cases hj:j<M.length
     .obtain ⟨x,hx⟩:∃x,M[j]? =some x:=⟨_,ZA hj⟩;rw[ZH hj,(ZB.1 hx).2,List.any_cons] at q2;have hs:=P0 (a:=x) (b:=g)
      cases hc:x.same g with
      |true=>
       rw[hc] at hs;rw[hc,Bool.true_or] at q2;rw[<-q2]
       conv=>whnf
       repeat' (first|refine gG (aM.fn (hs) ?_)|(refine gC ?_;first|refine cY ?_|refine gD (cI ?_))|refine gL (.map ?_)|refine gI (gM (iE ?_))|refine af.nrm ?_)<;>conv=>whnf
      |false=>
       rw[hc] at hs;rw[hc,Bool.false_or] at q2
       conv=>whnf
       repeat' (first|refine gG (aM.fn (hs) ?_)|(refine gC ?_;first|refine cN ?_|refine gD (cI ?_))|refine gW (wI ?_)|refine gL (.map ?_)|refine gI (gM (iE ?_)))<;>conv=>whnf
       refine⟨j+1,⟨⟨hj,q2⟩,by omega⟩,?_⟩
       exact au
     .obtain rfl:j=M.length:=by omega
      rw[Zj,List.any_nil] at q2;rw[<-q2]
      conv=>whnf
      repeat' (first|refine gC (gD (cJ ?_))|refine gL (.map ?_)|refine af.nrm ?_)<;>conv=>whnf
  .refine Fun.of (l0 (by simp) ?_) rfl rfl
   conv=>whnf
   repeat' (first|(refine gF ?_;first|refine ab.fn (ta) ?_|refine ab.fn (tg) ?_|refine ab.fn (c1) ?_)|(refine gC ?_;first|refine cY ?_|refine .not ?_|(refine gD ?_;first|refine cI ?_|refine cJ ?_))|refine gN (nS ?_)|refine gI (gT (iA ?_))|refine yc.mk ?_ ?_)<;>conv=>whnf
   .refine aw.by (fb:=true) (λ_ (j:Nat)=>⟨[(3,.ptr 0 0),(5,.sl .no (M.map Gl.av)),(8,.int .i64 (j:Int))],[.cells [.int .i64 g.op,.str g.name,.sl .no (g.args.map Tm.av)]],0⟩) (λj=>j<=M.length/\((M.drop j).any λx=>x.same g)=M.any λx=>x.same g) (λj=>M.length-j) 0 ⟨ZJ _,rfl⟩ ?_ ?_
    .refine ah.lay [some 1] oko ?_
     conv=>whnf
     refine ah.at_ ?_ rfl
     conv=>whnf
     refine And.intro ?_ ?_<;>conv=>whnf
     all_goals repeat' (first|(refine gV ?_;first|refine vE ?_|refine vI ?_|(refine WkN.norm ?_ ?_;(focus (simp[AV.norm,AV.aD,hM,g2,Gl.av,Tm.nK,Tm.avw,AV.norm,AV.aF,AV.aD];done))))|refine gX (xB ?_)|exact True.intro)<;>conv=>whnf
    .clear hM;rintro j ⟨q1,q2⟩
     by_cases hj:j<M.length
     .obtain ⟨x,hx⟩:∃x,M[j]? =some x:=⟨_,ZA hj⟩;rw[ZH hj,(ZB.1 hx).2,List.any_cons] at q2;have hs:=P0 (a:=x) (b:=g)
      cases hc:x.same g with
      |true=>
       rw[hc] at hs;rw[hc,Bool.true_or] at q2;rw[<-q2]
       conv=>whnf
       repeat' (first|refine gG (aM.fn (hs) ?_)|(refine gC ?_;first|refine cY ?_|refine gD (cI ?_))|refine gL (.map ?_)|refine gI (gM (iE ?_))|refine af.nrm ?_)<;>conv=>whnf
      |false=>
       rw[hc] at hs;rw[hc,Bool.false_or] at q2
       conv=>whnf
       repeat' (first|refine gG (aM.fn (hs) ?_)|(refine gC ?_;first|refine cN ?_|refine gD (cI ?_))|refine gW (wI ?_)|refine gL (.map ?_)|refine gI (gM (iE ?_)))<;>conv=>whnf
       refine⟨j+1,⟨⟨hj,q2⟩,by omega⟩,?_⟩
       exact au
     .obtain rfl:j=M.length:=by omega
      rw[Zj,List.any_nil] at q2;rw[<-q2]
      conv=>whnf
      repeat' (first|refine gC (gD (cJ ?_))|refine gL (.map ?_)|refine af.nrm ?_)<;>conv=>whnf
   .refine aw.by (fb:=true) (λ_ (j:Nat)=>⟨[(3,.ptr 0 0),(5,.sl .no (M.map Gl.av)),(8,.int .i64 (j:Int))],[.cells [.int .i64 g.op,.str g.name,.sl .no (g.args.map Tm.av)]],0⟩) (λj=>j<=M.length/\((M.drop j).any λx=>x.same g)=M.any λx=>x.same g) (λj=>M.length-j) 0 ⟨ZJ _,rfl⟩ ?_ ?_
    .refine ah.lay [some 1] oko ?_
     conv=>whnf
     refine ah.at_ ?_ rfl
     conv=>whnf
     refine And.intro ?_ ?_<;>conv=>whnf
     all_goals repeat' (first|(refine gV ?_;first|refine vE ?_|refine vI ?_|(refine WkN.norm ?_ ?_;(focus (simp[AV.norm,AV.aD,hM,g2,Gl.av,Tm.nK,Tm.avw,AV.norm,AV.aF,AV.aD];done))))|refine gX (xB ?_)|exact True.intro)<;>conv=>whnf
    .clear hM;rintro j ⟨q1,q2⟩
     by_cases hj:j<M.length
     .obtain ⟨x,hx⟩:∃x,M[j]? =some x:=⟨_,ZA hj⟩;rw[ZH hj,(ZB.1 hx).2,List.any_cons] at q2;have hs:=P0 (a:=x) (b:=g)
      cases hc:x.same g with
      |true=>
       rw[hc] at hs;rw[hc,Bool.true_or] at q2;rw[<-q2]
       conv=>whnf
       repeat' (first|refine gG (aM.fn (hs) ?_)|(refine gC ?_;first|refine cY ?_|refine gD (cI ?_))|refine gL (.map ?_)|refine gI (gM (iE ?_))|refine af.nrm ?_)<;>conv=>whnf
      |false=>
       rw[hc] at hs;rw[hc,Bool.false_or] at q2
       conv=>whnf
       repeat' (first|refine gG (aM.fn (hs) ?_)|(refine gC ?_;first|refine cN ?_|refine gD (cI ?_))|refine gW (wI ?_)|refine gL (.map ?_)|refine gI (gM (iE ?_)))<;>conv=>whnf
       refine⟨j+1,⟨⟨hj,q2⟩,by omega⟩,?_⟩
       exact au
     .obtain rfl:j=M.length:=by omega
      rw[Zj,List.any_nil] at q2;rw[<-q2]
      conv=>whnf
      repeat' (first|refine gC (gD (cJ ?_))|refine gL (.map ?_)|refine af.nrm ?_)<;>conv=>whnf
 .have hM:P7 a=[a]:=by unfold P7;rw[if_pos h11,if_neg h7,if_neg h9,if_neg h10]
  generalize P7 a=M at hM hMl|-;refine Fun.of (l0 (by simp) ?_) rfl rfl
  conv=>whnf
  repeat' (first|(refine gF ?_;first|refine ab.fn (ta) ?_|refine ab.fn (tg) ?_)|(refine gC ?_;first|refine cY ?_|refine .not ?_|(refine gD ?_;first|refine cI ?_|refine cJ ?_))|refine gI (gT (iA ?_))|refine yc.mk ?_ ?_)<;>conv=>whnf
  .refine aw.by (fb:=true) (λ_ (j:Nat)=>⟨[(3,.ptr 0 0),(5,.sl .no (M.map Gl.av)),(8,.int .i64 (j:Int))],[.cells [.int .i64 g.op,.str g.name,.sl .no (g.args.map Tm.av)]],0⟩) (λj=>j<=M.length/\((M.drop j).any λx=>x.same g)=M.any λx=>x.same g) (λj=>M.length-j) 0 ⟨ZJ _,rfl⟩ ?_ ?_
   .refine ah.lay [some 1] oko ?_
    conv=>whnf
    refine ah.at_ ?_ rfl
    conv=>whnf
    refine And.intro ?_ ?_<;>conv=>whnf
    all_goals repeat' (first|(refine gV ?_;first|refine vE ?_|refine vI ?_|(refine WkN.norm ?_ ?_;(focus (simp[AV.norm,AV.aD,hM,g2,Gl.av,Tm.nK,Tm.avw,AV.norm,AV.aF,AV.aD];done))))|refine gX (xB ?_)|exact True.intro)<;>conv=>whnf
   .clear hM;rintro j ⟨q1,q2⟩
    by_cases hj:j<M.length
    .obtain ⟨x,hx⟩:∃x,M[j]? =some x:=⟨_,ZA hj⟩;rw[ZH hj,(ZB.1 hx).2,List.any_cons] at q2;have hs:=P0 (a:=x) (b:=g)
     cases hc:x.same g with
     |true=>
      rw[hc] at hs;rw[hc,Bool.true_or] at q2;rw[<-q2]
      conv=>whnf
      repeat' (first|refine gG (aM.fn (hs) ?_)|(refine gC ?_;first|refine cY ?_|refine gD (cI ?_))|refine gL (.map ?_)|refine gI (gM (iE ?_))|refine af.nrm ?_)<;>conv=>whnf
     |false=>
      rw[hc] at hs;rw[hc,Bool.false_or] at q2
      conv=>whnf
      repeat' (first|refine gG (aM.fn (hs) ?_)|(refine gC ?_;first|refine cN ?_|refine gD (cI ?_))|refine gW (wI ?_)|refine gL (.map ?_)|refine gI (gM (iE ?_)))<;>conv=>whnf
      refine⟨j+1,⟨⟨hj,q2⟩,by omega⟩,?_⟩
      exact au
    .obtain rfl:j=M.length:=by omega
     rw[Zj,List.any_nil] at q2;rw[<-q2]
     conv=>whnf
     repeat' (first|refine gC (gD (cJ ?_))|refine gL (.map ?_)|refine af.nrm ?_)<;>conv=>whnf
  .refine aw.by (fb:=true) (λ_ (j:Nat)=>⟨[(3,.ptr 0 0),(5,.sl .no (M.map Gl.av)),(8,.int .i64 (j:Int))],[.cells [.int .i64 g.op,.str g.name,.sl .no (g.args.map Tm.av)]],0⟩) (λj=>j<=M.length/\((M.drop j).any λx=>x.same g)=M.any λx=>x.same g) (λj=>M.length-j) 0 ⟨ZJ _,rfl⟩ ?_ ?_
   .refine ah.lay [some 1] oko ?_
    conv=>whnf
    refine ah.at_ ?_ rfl
    conv=>whnf
    refine And.intro ?_ ?_<;>conv=>whnf
    all_goals repeat' (first|(refine gV ?_;first|refine vE ?_|refine vI ?_|(refine WkN.norm ?_ ?_;(focus (simp[AV.norm,AV.aD,hM,g2,Gl.av,Tm.nK,Tm.avw,AV.norm,AV.aF,AV.aD];done))))|refine gX (xB ?_)|exact True.intro)<;>conv=>whnf
   .clear hM;rintro j ⟨q1,q2⟩
    by_cases hj:j<M.length
    .obtain ⟨x,hx⟩:∃x,M[j]? =some x:=⟨_,ZA hj⟩;rw[ZH hj,(ZB.1 hx).2,List.any_cons] at q2;have hs:=P0 (a:=x) (b:=g)
     cases hc:x.same g with
     |true=>
      rw[hc] at hs;rw[hc,Bool.true_or] at q2;rw[<-q2]
      conv=>whnf
      repeat' (first|refine gG (aM.fn (hs) ?_)|(refine gC ?_;first|refine cY ?_|refine gD (cI ?_))|refine gL (.map ?_)|refine gI (gM (iE ?_))|refine af.nrm ?_)<;>conv=>whnf
     |false=>
      rw[hc] at hs;rw[hc,Bool.false_or] at q2
      conv=>whnf
      repeat' (first|refine gG (aM.fn (hs) ?_)|(refine gC ?_;first|refine cN ?_|refine gD (cI ?_))|refine gW (wI ?_)|refine gL (.map ?_)|refine gI (gM (iE ?_)))<;>conv=>whnf
      refine⟨j+1,⟨⟨hj,q2⟩,by omega⟩,?_⟩
      exact au
    .obtain rfl:j=M.length:=by omega
     rw[Zj,List.any_nil] at q2;rw[<-q2]
     conv=>whnf
     repeat' (first|refine gC (gD (cJ ?_))|refine gL (.map ?_)|refine af.nrm ?_)<;>conv=>whnf
end Go.CK
set_option maxRecDepth 100000
namespace Go.CK
open Go.AM Go.Proofs
def MT(n:Int):Tm:=.mk 0 n ⟨⟨[]⟩⟩ []
theorem Ol(n:Int):Fun Tryz.prog 53 [.int .i64 n] (az n).avw:=by
 refine Fun.of (MG (by simp) ?_) rfl rfl
 conv=>whnf
 repeat' refine af.nrm ?_<;>conv=>whnf
 all_goals rfl
theorem NS(n:Int):Fun Tryz.prog 54 [.int .i64 n] (MT n).avw:=by
 refine Fun.of (MH (by simp) ?_) rfl rfl
 conv=>whnf
 repeat' refine af.nrm ?_<;>conv=>whnf
 all_goals rfl
theorem Om(s:ByteArray)(l:List Tm)(hl:l.length<=1000):Fun Tryz.prog 55 [.str s,.sl .no (l.map Tm.av)] (Tm.mk 2 0 s l).avw:=by
 refine Fun.of (MJ (by simp) ?_) rfl rfl
 conv=>whnf
 repeat' (first|refine gN (nS ?_)|refine af.nrm ?_)<;>conv=>whnf
 all_goals first|rfl|(simp [lim,glim];omega)
theorem L4(op:Int)(x y:Tm):Fun Tryz.prog 34 [.int .i64 op,x.avw,y.avw] (g2 op x y).av:=by
 refine Fun.of (MA (by simp) ?_) rfl rfl
 conv=>whnf
 repeat' refine af.nrm ?_<;>conv=>whnf
 all_goals (simp[g2,Gl.av,Tm.nK,Tm.avw])
theorem xu1:allI 10 100 [az 0] [.mk 2 0 ⟨⟨[102]⟩⟩ [az 0]]=some ([],13):=by kernel_rfl
theorem xu2:allI 10 100 [az 0] [.mk 2 0 ⟨⟨[97]⟩⟩ []]=some ([⟨0,.mk 2 0 ⟨⟨[97]⟩⟩ []⟩],0):=by kernel_rfl
theorem xe1:MQ (g2 7 (MT 3) (MT 5))=1:=by
 unfold MQ;generalize uni _ _=u;cases u<;>kernel_rfl
theorem xe2:MQ (g2 6 (az 0) (az 0))=2:=by
 unfold MQ;generalize uni _ _=u;cases u<;>kernel_rfl
theorem xe3:NF (g2 5 (az 0) (.mk 2 0 ⟨⟨[102]⟩⟩ [az 0])) false=2:=by kernel_rfl
theorem xe4:NF (g2 5 (az 0) (.mk 2 0 ⟨⟨[97]⟩⟩ [])) true=0:=by kernel_rfl
def xeb:List Bnd:=[⟨1,MT 5⟩]
def xek:List Gl:=[g2 7 (az 0) (az 1)]
theorem xe5:inG xeb xek (g2 7 (az 0) (MT 5)) (MQ (Nh xeb (g2 7 (az 0) (MT 5))))=1:=by
 unfold MQ;generalize uni _ _=u;cases u<;>kernel_rfl
theorem xe6:inG xeb xek (g2 7 (az 0) (MT 6)) (MQ (Nh xeb (g2 7 (az 0) (MT 6))))=0:=by
 unfold MQ;generalize uni _ _=u;cases u<;>kernel_rfl
theorem xe7:OO (g2 7 (az 0) (az 1)) (g2 8 (az 0) (az 1))=true:=by kernel_rfl
theorem xe8:OO (g2 7 (az 0) (az 1)) (g2 8 (az 1) (az 0))=false:=by kernel_rfl
set_option maxHeartbeats 4000000 in
theorem Nz:Fun Tryz.prog 23 [] (.bool true):=by
 have v0:=Ol 0;have v1:=Ol 1;have i5:=NS 5;have i3:=NS 3;have i6:=NS 6;have ff:=Om ⟨⟨[102]⟩⟩ [az 0] (by decide)
 have fa:=Om ⟨⟨[97]⟩⟩ [] (by decide)
 have k1:=L4 7 (az 0) (az 1);have k2:=L4 7 (MT 3) (MT 5);have k3:=L4 6 (az 0) (az 0);have k4:=L4 5 (az 0) (.mk 2 0 ⟨⟨[102]⟩⟩ [az 0]);have k5:=L4 5 (az 0) (.mk 2 0 ⟨⟨[97]⟩⟩ []);have k6:=L4 7 (az 0) (MT 5);have k7:=L4 7 (az 0) (MT 6);have k8:=L4 8 (az 0) (az 1);have k9:=L4 8 (az 1) (az 0);have t1:=M8 (g2 7 (MT 3) (MT 5)) (by decide) (by decide)
 rw[xe1] at t1;have t2:=M8 (g2 6 (az 0) (az 0)) (by decide) (by decide)
 rw[xe2] at t2;have u3:=ML ((rT _ _ _ _).trans xu1) (by decide)
 have t3:=Nk (g2 5 (az 0) (.mk 2 0 ⟨⟨[102]⟩⟩ [az 0])) false (by decide) u3
 rw[xe3] at t3;have u4:=ML ((rT _ _ _ _).trans xu2) (by decide)
 have t4:=Nk (g2 5 (az 0) (.mk 2 0 ⟨⟨[97]⟩⟩ [])) true (by decide) u4
 rw[xe4] at t4;have n1:=OS (b:=xeb) (known:=xek) (g:=g2 7 (az 0) (MT 5)) (by decide) (by decide) (by decide) (by decide) (M8 _ (by decide) (by decide))
 rw[xe5] at n1;have n2:=OS (b:=xeb) (known:=xek) (g:=g2 7 (az 0) (MT 6)) (by decide) (by decide) (by decide) (by decide) (M8 _ (by decide) (by decide))
 rw[xe6] at n2;have f1:=NA (g2 7 (az 0) (az 1)) (g2 8 (az 0) (az 1)) (by decide) (by decide)
 rw[xe7] at f1;have f2:=NA (g2 7 (az 0) (az 1)) (g2 8 (az 1) (az 0)) (by decide) (by decide)
 rw[xe8] at f2;refine Fun.of (L6 (by simp) ?_) rfl rfl
 conv=>whnf
 repeat' (first|(refine gF ?_;first|refine ab.fn (v0) ?_|refine ab.fn (v1) ?_|refine ab.fn (i5) ?_|refine ab.fn (k1) ?_)|(refine gG ?_;first|refine aM.fn (i3) ?_|refine aM.fn (i6) ?_|refine aM.fn (ff) ?_|refine aM.fn (fa) ?_|refine aM.fn (k2) ?_|refine aM.fn (k3) ?_|refine aM.fn (k4) ?_|refine aM.fn (k5) ?_|refine aM.fn (k6) ?_|refine aM.fn (k7) ?_|refine aM.fn (k8) ?_|refine aM.fn (k9) ?_|refine aM.fn (t1) ?_|refine aM.fn (t2) ?_|refine aM.fn (t3) ?_|refine aM.fn (t4) ?_|refine aM.fn (n1) ?_|refine aM.fn (n2) ?_|refine aM.fn (f1) ?_|refine aM.fn (f2) ?_)|(refine gC ?_;first|refine cY ?_|refine gD (cI ?_))|refine gI (iJ ?_)|refine af.nrm ?_)<;>conv=>whnf
 all_goals rfl
end Go.CK
set_option maxRecDepth 100000
namespace Go.CK
open Go.AM Go.Proofs
theorem PE{g:Gl}(h:g.test=true):g.right=true:=by
 unfold Gl.test at h;rw[ZD] at h;exact h.2
theorem PC{g:Gl}(h:g.right=true)(h0:¬g.op=0):(0<g.op/\g.op<=12)/\g.name=⟨⟨[]⟩⟩/\(g.args.length:Int)=arG g.op/\vLB 200 20 g.args=true:=by
 unfold Gl.right at h;rw[if_neg h0] at h;simp only[ZD,decide_eq_true_eq] at h;exact h
theorem PL{l:List Tm}(h:vLB 200 20 l=true):∀x∈l,x.right=true:=by
 rw[<-OV] at h;unfold raB at h;rw[ZD,ZS] at h;exact h.1
theorem Pf{g:Gl}(h:g.test=true):(5<=g.op/\g.op<=12)/\g.name=⟨⟨[]⟩⟩/\(g.args.length:Int)=arG g.op/\vLB 200 20 g.args=true:=by
 have h1:=NV h;have h2:=PC (PE h) (by omega)
 exact⟨h1.1,h2.2⟩
theorem Pj{g:Gl}(h:g.test=true){i:Nat}(hi:i<g.args.length):(arg g i).right=true:=PL (Pf h).2.2.2 _ (ZE (MK hi))
theorem Pz{g:Gl}(h:g.test=true)(h2:g.op<=10):g.args.length=2:=by
 obtain⟨h1,_,h3,_⟩:=Pf h;unfold arG at h3;rw[if_neg (by omega),if_neg (by omega)] at h3
 omega
theorem PV{g:Gl}(h:g.test=true)(h2:¬g.op<=10):g.args.length=1:=by
 obtain⟨h1,_,h3,_⟩:=Pf h;unfold arG at h3;rw[if_neg (by omega),if_pos (by omega)] at h3
 omega
theorem Qp{g:Gl}(h:g.args.length=2):g.args=[arg g 0,arg g 1]:=by
 obtain⟨o,n,l⟩:=g
 match l,h with
 |[x,y],_=>rfl
theorem Qb{q:Int}{x y:Tm}{g:Gl}(hn:g.name=⟨⟨[]⟩⟩):(g2 q x y).same g=(decide (q=g.op)&&(decide (g.args.length=2)&&(decide (x.cmp (arg g 0)=0)&&decide (y.cmp (arg g 1)=0)))):=by
 unfold Gl.same g2;rw[hn]
 by_cases h:g.args.length=2
 .rw [Qp h];simp only[Tm.nD,ZX,YO,decide_true,Za];congr 1;rw[Bool.eq_iff_iff];simp only[decide_eq_true_eq,ZD,Qk,KB];constructor
  .rintro ⟨h1,h2,_⟩;exact⟨h1,h2⟩
  .rintro ⟨h1,h2⟩;exact⟨h1,h2,by simp⟩
 .have h1:¬([x,y].length=g.args.length):=λe=>h e.symm;rw[decide_eq_false h,decide_eq_false h1];simp
theorem Qn(a:Gl):a∈P7 a:=by
 unfold P7
 repeat' split
 all_goals simp
theorem Ql(a g:Gl):OO a g=Qr a g:=by
 unfold OO Qr
 cases hta:a.test with
 |false=>simp
 |true=>
 cases htg:g.test with
 |false=>simp
 |true=>
 rw[if_pos ⟨rfl,rfl⟩,Za,Za]
 cases hs:a.same g with
 |true=>
  rw[if_pos rfl]
  exact(List.any_eq_true.2 ⟨a,Qn a,hs⟩).symm
 |false=>
 rw[if_neg YY];obtain⟨hop,_,_,_⟩:=Pf hta;obtain⟨hog,hn,_,_⟩:=Pf htg;unfold P7
 by_cases h11:a.op<11
 rotate_left
 .rw [if_neg h11,if_neg (λe=>by have:=PV hta (by omega);omega)]
  simp[hs]
 rw[if_pos h11];have h2:=Pz hta (by omega)
 by_cases hg:g.op<=10
 rotate_left
 .have hg1:=PV htg hg;have hd:decide (g.args.length=2)=false:=decide_eq_false (by omega)
  rw[if_neg (λe=>by omega)]
  repeat' split
  all_goals simp[hs,Qb hn,hd,hg1]
 have h3:=Pz htg hg;rw[if_pos ⟨h2,h3⟩];unfold OY O2 ruB;have hd:decide (g.args.length=2)=true:=decide_eq_true h3
 by_cases h7:a.op=7
 .rw [if_pos h7];simp only[List.any_cons,List.any_nil,hs,Qb hn,hd,h7,Bool.false_or,Bool.or_false,Za];generalize decide ((arg a 0).cmp (arg g 0)=0)=b00;generalize decide ((arg a 1).cmp (arg g 1)=0)=b11;generalize decide ((arg a 0).cmp (arg g 1)=0)=b01;generalize decide ((arg a 1).cmp (arg g 0)=0)=b10;rw[Bool.eq_iff_iff];simp only[YL,ZD,decide_eq_true_eq];cases b00<;>cases b11<;>cases b01<;>cases b10<;>simp<;>omega
 rw[if_neg h7]
 by_cases h9:a.op=9
 .rw [if_pos h9];simp only[List.any_cons,List.any_nil,hs,Qb hn,hd,h9,Bool.false_or,Bool.or_false,Za];generalize decide ((arg a 0).cmp (arg g 0)=0)=b00;generalize decide ((arg a 1).cmp (arg g 1)=0)=b11;generalize decide ((arg a 0).cmp (arg g 1)=0)=b01;generalize decide ((arg a 1).cmp (arg g 0)=0)=b10;rw[Bool.eq_iff_iff];simp only[YL,ZD,decide_eq_true_eq];cases b00<;>cases b11<;>cases b01<;>cases b10<;>simp<;>omega
 rw[if_neg h9]
 by_cases h10:a.op=10\/a.op=5\/a.op=6
 .rw [if_pos h10];simp only[List.any_cons,List.any_nil,hs,Qb hn,hd,Bool.false_or,Bool.or_false,Za];generalize decide ((arg a 0).cmp (arg g 0)=0)=b00;generalize decide ((arg a 1).cmp (arg g 1)=0)=b11;generalize decide ((arg a 0).cmp (arg g 1)=0)=b01;generalize decide ((arg a 1).cmp (arg g 0)=0)=b10;rw[Bool.eq_iff_iff];simp only[YL,ZD,decide_eq_true_eq];cases b00<;>cases b11<;>cases b01<;>cases b10<;>simp<;>omega
 .rw [if_neg h10];simp only[List.any_cons,List.any_nil,hs,Bool.false_or,Bool.or_false];generalize decide ((arg a 0).cmp (arg g 0)=0)=b00;generalize decide ((arg a 1).cmp (arg g 1)=0)=b11;generalize decide ((arg a 0).cmp (arg g 1)=0)=b01;generalize decide ((arg a 1).cmp (arg g 0)=0)=b10;rw[Bool.eq_iff_iff];simp only[YL,ZD,decide_eq_true_eq];cases b00<;>cases b11<;>cases b01<;>cases b10<;>simp<;>omega
theorem Qs{b:Bool}:NO b=1↔b=true:=by cases b<;>simp[NO]
theorem Qi(a b:Tm):MU b a=((MU a b).2.1,(MU a b).1,(MU a b).2.2):=by
 unfold MU;cases a.Mm<;>cases b.Mm<;>cases a.gnd<;>cases b.gnd<;>simp[and_comm]
theorem Qj{op:Int}{a b:Tm}:N3 op a b=1↔(MU a b).2.2=1/\OX op (MU a b).1 (MU a b).2.1=true:=by
 unfold N3
 by_cases h:(MU a b).2.2=1
 .rw [if_pos h,Qs];exact⟨λe=>⟨h,e⟩,λe=>e.2⟩
 .rw [if_neg h];exact⟨λe=>absurd e h,λe=>absurd e.1 h⟩
theorem Pu{op:Int}(h:7<=op/\op<=10)(a b:Tm)(u:Bool):Oz op a b u=N3 op a b:=by
 unfold Oz;rw[if_neg (by omega),if_neg (by omega),if_neg (by omega)]
theorem Pp{g:Gl}(h:g.test=true):MQ g=Oz g.op (arg g 0) (arg g 1) (uni (arg g 0) (arg g 1)):=by
 unfold MQ NF;rw[if_pos h]
theorem PH{a b:Tm}(ha:a.right=true)(hb:b.right=true)(hN:a.nodes+b.nodes<=100000000):uni a b=true↔∃σ,app σ a=app σ b:=by
 obtain⟨m,e,h1,h2⟩:=PU (a:=[a]) (b:=[b]) (by simp only[Tm.ai];omega)
 have hu:uni a b=L7 e:=by unfold uni;rw[h1]
 rw[hu];rcases PN h2 ha hb with ⟨hn,_,h0⟩|⟨M,hM,⟨_,_,h0⟩|⟨_,_,h0⟩⟩
 .rw [h0];exact⟨(λe=>by cases e),λ⟨σ,hσ⟩=>absurd (PA.2 hσ) (hn σ)⟩
 .rw [h0];exact⟨λ_=>⟨M,PA.1 hM.sol⟩,λ_=>rfl⟩
 .rw [h0];exact⟨λ_=>⟨M,PA.1 hM.sol⟩,λ_=>rfl⟩
theorem Qm{a b:Tm}(ha:a.right=true)(hb:b.right=true)(hN:a.nodes+b.nodes<=100000000):uni a b=uni b a:=by
 rw[Bool.eq_iff_iff,PH ha hb hN,PH hb ha (by omega)]
 exact⟨λ⟨σ,h⟩=>⟨σ,h.symm⟩,λ⟨σ,h⟩=>⟨σ,h.symm⟩⟩
theorem PJ{a b:Tm}(ha:a.form=true)(hb:b.form=true):a.cmp b=0↔a=b:=⟨PT a b ha hb,λe=>by rw[e];exact Tm.HD _⟩
theorem Qq{a g:Gl}(hN:Tm.ai a.args<=10000)(h:OO a g=true)(h1:MQ a=1):MQ g=1:=by
 unfold OO at h;split at h
 rotate_left
 .cases h
 rename_i ht;obtain⟨hta,htg⟩:=ht;obtain⟨hop,hna,hla,hva⟩:=Pf hta;obtain⟨hog,hng,hlg,hvg⟩:=Pf htg;rw[Pp hta] at h1;rw[Pp htg];split at h
 .rename_i hs;unfold Gl.same at hs;simp only[ZD,decide_eq_true_eq] at hs;obtain⟨e1,_,_,e4⟩:=hs;have fa:Tm.bN a.args=true:=by unfold vLB at hva;rw[ZD] at hva;exact hva.1
  have fg:Tm.bN g.args=true:=by unfold vLB at hvg;rw[ZD] at hvg;exact hvg.1
  have e5:=PI a.args g.args (λx _ b=>PT x b) fa fg e4;have ea:∀i,arg g i=arg a i:=λi=>by unfold arg;rw[e5]
  rw[ea,ea,<-e1];exact h1
 .split at h
  rotate_left
  .cases h
  rename_i h2;obtain⟨h2,h3⟩:=h2;have a0:=Pj hta (i:=0) (by omega)
  have a1:=Pj hta (i:=1) (by omega)
  have g0:=Pj htg (i:=0) (by omega)
  have g1:=Pj htg (i:=1) (by omega)
  have n0:=MS a 0;have n1:=MS a 1;unfold OY O2 at h;simp only[YL,ZD,decide_eq_true_eq] at h;rw[PJ (cU a0) (cU g0),PJ (cU a1) (cU g1),PJ (cU a0) (cU g1),PJ (cU a1) (cU g0)] at h;rcases h with ⟨⟨e1,e2⟩,h⟩|⟨⟨e1,e2⟩,h⟩
  .rw [<-e1,<-e2];simp only[ruB,decide_eq_true_eq] at h;rw[Pu (by omega)] at h1|-
   rw[Qj] at h1|-;refine⟨h1.1,?_⟩;have h4:=h1.2;unfold OX at h4|-;rcases h with ⟨q1,q2⟩|⟨q1,q2⟩|⟨q1,q2⟩<;>rw[q1] at h4<;>rw[q2]<;>simp at h4|-<;>omega
  .rw [<-e1,<-e2];simp only[ruB,decide_eq_true_eq] at h
   by_cases h7:7<=a.op
   .rw [Pu (by omega)] at h1|-
    rw[Qj] at h1|-;rw[Qi];refine⟨h1.1,?_⟩;have h4:=h1.2;unfold OX at h4|-;rcases h with ⟨q1,q2⟩|⟨q1,q2⟩|⟨q1,q2⟩|⟨q1,q2⟩|⟨q1,q2⟩|⟨q1,q2⟩<;>rw[q1] at h4<;>rw[q2]<;>simp at h4|-<;>omega
   .rw [Qm (a:=arg a 1) a1 a0 (by omega)]
    have hcs:(arg a 1).cmp (arg a 0)=0↔(arg a 0).cmp (arg a 1)=0:=⟨Qh _ _,Qh _ _⟩;have e6:g.op=a.op:=by omega
    rw[e6];unfold Oz at h1|-;rw[if_neg (by omega),if_neg (by omega),if_pos (by omega)] at h1|-
    simp only[hcs];exact h1
end Go.CK
set_option maxRecDepth 100000
namespace Go.CK
open Go.AM Go.Proofs
theorem Qe(a g:Gl):Fun Tryz.prog 7 [a.av,g.av] (.bool true):=by
 have hgr:=ND (l:=[a,g]) (most:=100) (by decide) (by decide)
 cases hg:L2 ([a,g].map gl2) 100 with
 |true=>
  rw[hg] at hgr;refine Fun.of (J2 (by simp) ?_) rfl rfl
  conv=>whnf
  repeat' (first|(refine gF ?_;first|refine ab.fn (hgr) ?_|refine ab.fn (Nz) ?_)|refine gC (cY ?_)|refine af.nrm ?_)<;>conv=>whnf
 |false=>
  rw[hg] at hgr;have ha:=NZ hg a (by simp)
  have hb:=NZ hg g (by simp)
  have f1:=NA a g (by omega) (by omega)
  have f2:=Qd a g (by omega) (by omega) (by omega) (by omega)
  rw[<-Ql] at f2;have ta:=M8 a (by omega) (by omega)
  have tg:=M8 g (by omega) (by omega)
  cases hf:OO a g with
  |false=>
   rw[hf] at f1 f2;refine Fun.of (J2 (by simp) ?_) rfl rfl
   conv=>whnf
   repeat' (first|(refine gF ?_;first|refine ab.fn (hgr) ?_|refine ab.fn (f1) ?_|refine ab.fn (f2) ?_|refine ab.fn (Nz) ?_)|(refine gC ?_;first|refine cY ?_|refine cN ?_|refine .not ?_|refine gD (cIr ?_))|refine af.nrm ?_)<;>conv=>whnf
   all_goals rfl
  |true=>
   rw[hf] at f1 f2
   by_cases h1:MQ a=1
   .have h2:=Qq (by omega) hf h1
    rw[h1] at ta;rw[h2] at tg;refine Fun.of (J2 (by simp) ?_) rfl rfl
    conv=>whnf
    repeat' (first|(refine gF ?_;first|refine ab.fn (hgr) ?_|refine ab.fn (f1) ?_|refine ab.fn (f2) ?_|refine ab.fn (ta) ?_|refine ab.fn (tg) ?_|refine ab.fn (Nz) ?_)|(refine gC ?_;first|refine cY ?_|refine cN ?_|refine .not ?_|(refine gD ?_;first|refine cI ?_|refine cIr ?_))|refine af.nrm ?_)<;>conv=>whnf
    all_goals rfl
   .refine Fun.of (J2 (by simp) ?_) rfl rfl
    conv=>whnf
    repeat' (first|(refine gF ?_;first|refine ab.fn (hgr) ?_|refine ab.fn (f1) ?_|refine ab.fn (f2) ?_|refine ab.fn (ta) ?_|refine ab.fn (Nz) ?_)|(refine gC ?_;first|refine cY ?_|refine cN ?_|refine .not ?_|(refine gD ?_;first|refine cJ ?_|refine cIr ?_))|refine af.nrm ?_)<;>conv=>whnf
    all_goals rfl
end Go.CK
set_option maxRecDepth 100000
namespace Go.CK
open Go.AM Go.Proofs
end Go.CK
namespace Go.CK
open Go.AM Go.Proofs
theorem Qc{a g:Gl}:Fun Tryz.prog 7 [a.av,g.av] (.bool true):=Qe a g
end Go.CK
namespace Go.CK
open Go.RowKit Go.AM
def sF(M:Hp):List AV->List Value->Prop
 |[],[]=>True
 |x::xs,v::vs=>FV M x v/\sF M xs vs
 |_,_=>False
theorem sF.len{M:Hp}:∀{xs:List AV} {vs:List Value},sF M xs vs->vs.length=xs.length
 |[],[],_=>rfl
 |_::xs,_::vs,h=>by simp[sF.len h.2]
 |[],_::_,h=>h.elim
 |_::_,[],h=>h.elim
theorem sF.get{M:Hp}:∀{xs:List AV} {vs:List Value},sF M xs vs->∀j (h:j<xs.length) v,vs[j]? =some v->FV M xs[j] v
 |[],[],_,j,h,_,_=>by cases h
 |_::xs,_::vs,h,0,_,v,hv=>by
  simp only[Yq,ZN] at hv
  subst hv;exact h.1
 |_::xs,_::vs,h,j+1,hj,v,hv=>sF.get h.2 j (by simpa using hj) v (by simpa using hv)
 |[],_::_,h,_,_,_,_=>h.elim
 |_::_,[],h,_,_,_,_=>h.elim
theorem Fun.calls{P:Program}{f:FuncId}{vals:List AV}{b:Bool}(h:Fun P f vals (.bool b)){w:World}{args:List Value}(ha:sF (Hp.of w) vals args):
  Calls P f args.toArray w λe w'=>e=.returned (.bool b)/\Ext w w':=by
 refine(((h []).mono (Q':=λr _=>r=.bool b) λr bs hq=>hq.1).calls (Hp.le_refl _) ha.len ha.get).mono ?_;rintro e w' ⟨v,r,bs',M',σ,n,rfl,rfl,hv,hx,_⟩;exact⟨by rw[hv.cB],hx⟩
end Go.CK
