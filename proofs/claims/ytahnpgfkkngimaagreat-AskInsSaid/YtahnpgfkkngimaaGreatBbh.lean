/-
  Texts of this aQ joined (wip/gen/bundle.py),those declarations only that are needed:UrJ UrK. By an AI agent.
-/
import Derived.Test.YtahnpgfkkngimaaGreatBbg
set_option linter.unusedSimpArgs false
set_option linter.unusedVariables false
set_option maxRecDepth 100000
namespace Go.CK
open Go.AM Go.Proofs
def B4(f:Nat)(a b:List Tm):Option (List Bnd×Int):=match vX f rg0 (a.zip b) with
 |none=>none
 |some (_,false)=>some ([],13)
 |some (g,true)=>Gb g
theorem RW.rk{g:Rg}(h:RW g)(hl:g.nodes.length<=4000000000):RK g:=⟨h.len,hl,λi x hx=>qe h.nds hx,λi x hx h1=>(ix (h.nds.frm i x hx) h1).1⟩
theorem o7{g:Rg}{m:List (Int×Int)}:∀{n:Nat} {r:Option (List Bnd)},ie g m n=some r->∀i,i<=n->∃r',ie g m i=some r'/\(r'=none->r=none)
 |0,r,h,i,hi=>by
  obtain rfl:i=0:=by omega
  exact⟨_,h,id⟩
 |n+1,r,h,i,hi=>by
  by_cases e:i=n+1
  .subst e;exact⟨_,h,id⟩
  .rw [ie] at h;split at h
   .cases h
   .rename_i h1;cases h;obtain⟨r',h2,_⟩:=o7 h1 i (by omega)
    exact⟨r',h2,λ_=>rfl⟩
   .rename_i out h1;obtain⟨r',h2,h3⟩:=o7 h1 i (by omega)
    refine⟨r',h2,λe=>?_⟩;have:=h3 e;cases this
theorem fB{x:Bnd}{l:List Bnd}:(lT x l).length=l.length+1:=by
 have:=yZ x.v l;unfold lT;rw[ZC,ZX,Zn,Yf];omega
theorem iY{v:Int}{t:Tm}{l:List Bnd}:(lT ⟨v,t⟩ l).map Bnd.av=(l.map Bnd.av).take (fA v l)++[Bnd.av ⟨v,t⟩]++(l.map Bnd.av).drop (fA v l):=by
 unfold lT;rw[Zt,ZP,List.map_take,List.map_drop,Zg];rfl
theorem rZ{α β:Type}(f:α->β)(l:List α):(l.map f).take l.length=l.map f:=by rw[<-List.map_take,Zw]
set_option maxHeartbeats 8000000 in
theorem Ik{f:Nat}{a b:List Tm}{out:List Bnd}{e:Int}(h:B4 f a b=some (out,e))(hl:a.length=b.length)(hfa:∀x∈a,x.form=true)(hfb:∀x∈b,x.form=true)(hN:Tm.ai a+Tm.ai b<=300000000)(hf:300000000<f):Fun Tryz.prog 116 [.sl .no (a.map Tm.av),.sl .no (b.map Tm.av)] (.tup [.sl .no (out.map Bnd.av),.int .i64 e]):=by
 have hla:=bF a;have hlb:=bF b;unfold B4 at h
 cases hR:vX f rg0 (a.zip b) with
 |none=>rw[hR] at h;cases h
 |some gb=>
  obtain⟨g,br⟩:=gb;rw[hR] at h;refine Fun.of (jG (by simp) ?_) rfl rfl
  conv=>whnf
  skip;refine aw.by (fb:=true) (λ_ (q:Nat×Rg×Nat)=>⟨[(0,.sl .no (a.map Tm.av)),(1,.sl .no (b.map Tm.av)),(6,.ptr 0 0),(7,.int .i64 (q.1:Int))],rbs q.2.1.nodes q.2.1.cls q.2.2,0⟩) (λq=>q.1<=a.length/\vX f q.2.1 ((a.zip b).drop q.1)=some (g,br)/\RW q.2.1/\aE q.2.1.nodes q.2.1.R []/\q.2.1.cls.length<=q.2.2/\q.2.1.nodes.length<=Tm.ai (a.take q.1)+Tm.ai (b.take q.1)) (λq=>a.length-q.1) (0,rg0,0) ⟨ZJ _,hR,Gt,tx,ZG _,ZJ _⟩ ?_ ?_
  .refine ah.C2 0 0 4 (l:=[]) rfl (λy hy=>by cases hy) ?_
   conv=>whnf
   refine ah.cx (.bx 0 1) rfl rfl ?_
   conv=>whnf
   refine ah.lay [some 0,some 1] oko ?_
   conv=>whnf
   refine ah.at_ ?_ rfl
   conv=>whnf
   refine And.intro ?_ ?_<;>conv=>whnf
   all_goals repeat' (first|(refine gV ?_;first|refine vE ?_|refine vI ?_)|(refine gX ?_;(refine BxN.mk ?_ ?_;(focus (simp[AV.norm,AV.aD,cellsOf,rg0];done))))|exact True.intro)<;>conv=>whnf
  .rintro ⟨j,gj,cap⟩ ⟨q1,q2,q3,q4,hcap,q6⟩;dsimp only at q1 q2 q3 q4 hcap q6|-
   by_cases hj:j<a.length
   .obtain ⟨x,hx⟩:∃x,a[j]? =some x:=⟨_,ZA hj⟩;obtain⟨y,hy⟩:∃y,b[j]? =some y:=⟨_,ZA (by omega)⟩
    have hz:(a.zip b)[j]? =some (x,y):=YS.2 ⟨hx,hy⟩;have hzl:j<(a.zip b).length:=(ZB.1 hz).1;rw[ZH hzl,(ZB.1 hz).2,vX] at q2;have hxr:=hfa x (ZE hx);have hyr:=hfb y (ZE hy);have hta:=bI a hx;have htb:=bI b hy;have htk:a.take (j+1)=a.take j++[x]:=by rw[Zz,hx];rfl
    have htk2:b.take (j+1)=b.take j++[y]:=by rw[Zz,hy];rfl
    have hjl:=q3.len;have hjb:j<b.length:=by omega
    obtain⟨a1,n1,a2,a3⟩:=nA x q3 q4 hxr;have l1:=nz gj x;obtain⟨b1,n2,b2,b3⟩:=nA y a1.gw a1.cl hyr;have l2:=nz (bw gj x).1 y;have hx2:=b1.old _ _ a2;have hcls:=Ea (bw (bw gj x).1 y).1;have hlen2:=b1.gw.len;have hlen1:=a1.gw.len;have hwx:=(ZB.1 hx2).1;have hwy:=(ZB.1 b2).1
    obtain⟨g3,b3',e1,e2,e3,e4,e5⟩:=rz f (bw (bw gj x).1 y).1 [] (bw gj x).2 (bw (bw gj x).1 y).2 b1.gw (nE b1.cl) (λp hp=>by
     rw[Zp] at hp;subst hp;exact⟨hwx,hwy⟩) (by omega)
    rw[e1] at q2;have hrk2:=b1.gw.rk (by omega)
    have hadd:=DY x (nu x hxr) gj cap hcap (by omega) (by omega)
    have hadd2:=λcp hcp=>DY y (nu y hyr) (bw gj x).1 cp hcp (by omega) (by omega)
    have hjo:=λcp hcp=>Kr (cap:=cp) f e1 hcp hrk2.len hrk2.lim hrk2.six;unfold lW at hadd hadd2;clear a2 a3 b2 b3 hx2 e5 hrk2 hcls hwx hwy;generalize bw gj x=gx at*;obtain⟨g1,k1⟩:=gx;dsimp only at*;generalize bw g1 y=gy at*;obtain⟨g2,k2⟩:=gy;dsimp only at*
    conv=>whnf
    repeat' (first|refine gC (gD (cI ?_))|refine gL (.map ?_)|refine gI (gT (iA ?_)))<;>conv=>whnf
    refine ab.at [0,1] hadd rfl rfl ?_ oko ?_
    .rintro r bs' ⟨rfl,cp,hcp,rfl⟩;exact⟨rfl,rfl,oko⟩
    rintro r bs' ⟨rfl,cp,hcp,rfl⟩
    conv=>whnf
    repeat' refine gI (gT (iA ?_))<;>conv=>whnf
    refine ab.at [0,2] (hadd2 cp hcp) rfl rfl ?_ oko ?_
    .rintro r bs' ⟨rfl,cp,hcp,rfl⟩;exact⟨rfl,rfl,oko⟩
    rintro r bs' ⟨rfl,cp2,hcp2,rfl⟩
    conv=>whnf
    skip;refine ab.ate [0,3] (hjo cp2 hcp2) rfl rfl ?_
    cases b3' with
    |false=>
     cases q2;cases h
     conv=>whnf
     repeat' (refine gC ?_;first|refine cN ?_|refine .not ?_)<;>conv=>whnf
     refine af.lay [] oko ?_
     conv=>whnf
     repeat' refine af.nrm ?_<;>conv=>whnf
     all_goals rfl
    |true=>
     simp only at q2;obtain⟨w1,w2,_,_⟩:=e4 rfl
     conv=>whnf
     repeat' (first|(refine gC ?_;first|refine cY ?_|refine .not ?_)|refine gW (wI ?_))<;>conv=>whnf
     refine⟨(j+1,g3,cp2),⟨⟨hj,q2,w1,w2,by show g3.cls.length<=cp2;omega,?_⟩,by show _-(j+1)<_-j;omega⟩,?_⟩
     .show g3.nodes.length<=Tm.ai (a.take (j+1))+Tm.ai (b.take (j+1));rw[e2,htk,htk2,cX,cX];omega
     dsimp only;refine ah.lay [some 0,some 3] oko ?_
     conv=>whnf
     exact au
   .obtain rfl:j=a.length:=by omega
    rw[Yk (by rw[XT];omega),vX] at q2
    cases q2;simp only at h;rw[Zl (ZG _),Zl (by omega)] at q6
    have hrk:=q3.rk (by omega)
    have hll:=q3.len;unfold Gb at h
    cases hme:Au g with
    |none=>rw[hme] at h;cases h
    |some mo=>
    rw[hme] at h;have hmk:=Cy hcap hrk hme;unfold DG at hmk
    cases mo with
    |none=>
     cases h
     conv=>whnf
     repeat' (first|refine gF (ab.to (hmk) ?_)|(refine gC ?_;first|refine cN ?_|refine .not ?_|refine gD (cJ ?_))|refine gL (.map ?_))<;>conv=>whnf
     refine af.lay [] oko ?_
     conv=>whnf
     repeat' refine af.nrm ?_<;>conv=>whnf
     all_goals rfl
    |some m=>
    simp only at h
    cases hS:ie g m g.nodes.length with
    |none=>rw[hS] at h;cases h
    |some so=>
    rw[hS] at h
    conv=>whnf
    repeat' (first|refine gF (ab.to (hmk) ?_)|(refine gC ?_;first|refine cY ?_|refine .not ?_|refine gD (cJ ?_))|refine gL (.map ?_))<;>conv=>whnf
    refine aw.by (fb:=true) (λ_ (q:Nat×List Bnd)=>⟨[(6,.ptr 0 0),(10,.sl .no (m.map msA)),(12,.sl .no (q.2.map Bnd.av)),(13,.int .i64 (q.1:Int))],rbs g.nodes g.cls cap,0⟩) (λq=>q.1<=g.nodes.length/\ie g m q.1=some (some q.2)/\q.2.length<=q.1) (λq=>g.nodes.length-q.1) (0,[]) ⟨ZJ _,rfl,ZG _⟩ ?_ ?_
    .refine ah.at_ ?_ rfl
     conv=>whnf
     refine And.intro ?_ ?_<;>conv=>whnf
     all_goals repeat' (first|(refine gV ?_;first|refine vE ?_|refine vI ?_|(refine WkN.norm ?_ ?_;(focus (simp[AV.norm,AV.aD,];done))))|refine gX (xB ?_)|exact True.intro)<;>conv=>whnf
    .rintro ⟨i,out'⟩ ⟨r1,r2,r3⟩;dsimp only at r1 r2 r3|-
     by_cases hi:i<g.nodes.length
     .obtain ⟨r',hr3,hnone⟩:=o7 hS (i+1) (by omega)
      have hst:=hr3;rw[ie,r2] at hst;simp only at hst;rw[GM] at hst
      cases hx:g.nodes[i]? with
      |none=>rw[hx] at hst;cases hst
      |some x=>
      cases hc:g.cls[i]? with
      |none=>rw[hx,hc] at hst;cases hst
      |some c=>
      rw[hx,hc] at hst;simp only at hst;have hs:=pJ (c:=c) hcap hrk.len hrk.lim;have hle:=DI (c:=c) hcap hrk.len hrk.lim hrk.pos
      by_cases hk1:x.t.kind=1
      rotate_left
      .rw [if_pos (.inl hk1)] at hst;cases hst
       conv=>whnf
       repeat' (first|(refine gC ?_;first|refine cY ?_|refine .not ?_|(refine gD ?_;first|refine cI ?_|refine cJ ?_))|refine gW (wI ?_)|refine gL (.map ?_)|refine gN (nS ?_)|refine gI (gM (iE ?_))|(refine gE ?_;refine eLn ?_)|refine gPr (pE ?_))<;>conv=>whnf
       refine⟨(i+1,out'),⟨⟨hi,hr3,by show out'.length<=i+1;omega⟩,by show _-(i+1)<_-i;omega⟩,?_⟩
       exact au
      .cases hsc:g.shape c with
       |none=>
        rw[hsc,show oiN none=-1 from rfl] at hs
        by_cases hlv:oiI (g.le c)=x.t.num
        .rw [if_pos (.inr ⟨hsc,hlv⟩)] at hst
         conv=>whnf
         repeat' (first|(refine gC ?_;first|refine .not ?_|refine gD (cI ?_))|refine gL (.map ?_)|refine gN (nS ?_)|refine gI (gM (iE ?_))|(refine gE ?_;refine eLn ?_))<;>conv=>whnf
         refine ab.ate [0,1] hs rfl rfl ?_
         conv=>whnf
         repeat' (first|(refine gC ?_;first|refine .not ?_|refine gD (cI ?_))|refine gI (gM (iE ?_)))<;>conv=>whnf
         refine ab.ate [0,1] hle rfl rfl ?_;cases hst
         conv=>whnf
         repeat' (first|(refine gC ?_;first|refine .not ?_|refine gD (cI ?_))|refine gW (wI ?_)|refine gPr (pE ?_))<;>conv=>whnf
         refine⟨(i+1,out'),⟨⟨hi,hr3,by show out'.length<=i+1;omega⟩,by show _-(i+1)<_-i;omega⟩,?_⟩
         exact au
        .have hns:¬(¬x.t.kind=1\/(g.shape c=none/\oiI (g.le c)=x.t.num)):=λe=>e.elim (λe=>e hk1) λe=>hlv e.2
         conv=>whnf
         repeat' (first|(refine gC ?_;first|refine .not ?_|refine gD (cI ?_))|refine gL (.map ?_)|refine gN (nS ?_)|refine gI (gM (iE ?_))|(refine gE ?_;refine eLn ?_))<;>conv=>whnf
         refine ab.ate [0,1] hs rfl rfl ?_
         conv=>whnf
         repeat' (first|(refine gC ?_;first|refine .not ?_|refine gD (cI ?_))|refine gI (gM (iE ?_)))<;>conv=>whnf
         refine ab.ate [0,1] hle rfl rfl ?_;rw[if_neg hns] at hst
         cases hy:m[c]? with
         |none=>rw[hy] at hst;cases hst
         |some y=>
         rw[hy] at hst;simp only at hst;have hcm:=(ZB.1 hy).1
         by_cases hbig:200<y.1\/20<y.2
         .rw [if_pos hbig] at hst;cases hst;cases hnone rfl;cases h;rcases Decidable.em (200<y.1) with hb1|hb1
          .conv=>whnf
           repeat' (first|(refine gC ?_;first|refine cY ?_|refine .not ?_|(refine gD ?_;first|refine cI ?_|refine cJ ?_))|refine gI (gM (iE ?_))|refine gPr (pE ?_))<;>conv=>whnf
           refine af.lay [] oko ?_
           conv=>whnf
           repeat' refine af.nrm ?_<;>conv=>whnf
           all_goals rfl
          .have hb2:20<y.2:=hbig.resolve_left hb1
           conv=>whnf
           repeat' (first|(refine gC ?_;first|refine .not ?_|(refine gD ?_;first|refine cI ?_|refine cJ ?_))|refine gI (gM (iE ?_))|refine gPr (pE ?_))<;>conv=>whnf
           refine af.lay [] oko ?_
           conv=>whnf
           repeat' refine af.nrm ?_<;>conv=>whnf
           all_goals rfl
         .rw [if_neg hbig] at hst;have hb1:¬200<y.1:=λe=>hbig (.inl e);have hb2:¬20<y.2:=λe=>hbig (.inr e)
          cases ht:gU g 20 c with
          |none=>rw[ht] at hst;cases hst
          |some t=>
          rw[ht] at hst;cases hst;have htk:=F2 hcap hrk 20 ht;unfold yi at htk
          conv=>whnf
          repeat' (first|(refine gC ?_;first|refine .not ?_|(refine gD ?_;first|refine cI ?_|refine cJ ?_))|refine gI (gM (iE ?_))|refine yc.mk ?_ ?_|refine gPr (pE ?_))<;>conv=>whnf
          .refine ab.ate [0,1] htk rfl rfl ?_
           conv=>whnf
           repeat' refine gPr (pT ?_)<;>conv=>whnf
           refine aw.by (fb:=true) (λ_ (k:Nat)=>⟨[(6,.ptr 0 0),(10,.sl .no (m.map msA)),(12,.sl .no (out'.map Bnd.av)),(13,.int .i64 (i:Int)),(15,.ptr 2 0),(16,.sl .full []),(17,.int .i64 (k:Int))],rbs g.nodes g.cls cap++[.cells [.int .i64 x.t.num,.int .i64 t.kind,.int .i64 t.num,.str t.name,.sl .no (t.args.map Tm.av)]],0⟩) (λk=>k<=out'.length/\∀j b,out'[j]? =some b->j<k->b.v<x.t.num) (λk=>out'.length-k) 0 ⟨ZJ _,λj b _ h=>absurd h (Yn _)⟩ ?_ ?_
           .refine ah.lay [some 0,some 1,some 2] oko ?_
            conv=>whnf
            exact au
           .rintro k ⟨k1,k2⟩
            by_cases hk1:k<out'.length
            .obtain ⟨b,hb⟩:∃b,out'[k]? =some b:=⟨_,ZA hk1⟩
             by_cases hlt:b.v<x.t.num
             .conv=>whnf
              repeat' (first|refine gC (gD (cI ?_))|refine gW (wI ?_)|refine gL (.map ?_)|refine gI (gM (iE ?_)))<;>conv=>whnf
              refine⟨k+1,⟨⟨hk1,λj b' hb' hj=>?_⟩,by omega⟩,?_⟩
              .by_cases e:j=k
               .subst e;rw[hb] at hb';cases hb';exact hlt
               .exact k2 j b' hb' (by omega)
              exact au
             .have hik:fA x.t.num out'=k:=iX k1 k2 λb' hb'=>by rw[hb] at hb';cases hb';exact hlt
              conv=>whnf
              repeat' (first|(refine gC ?_;(refine gD ?_;first|refine cI ?_|refine cJ ?_))|refine gW (wI ?_)|refine gL (.map ?_)|refine gN (nS ?_)|refine gI (gM (iE ?_)))<;>conv=>whnf
              refine⟨(i+1,lT ⟨x.t.num,t⟩ out'),⟨⟨hi,hr3,by rw[fB];omega⟩,by show _-(i+1)<_-i;omega⟩,?_⟩
              dsimp only;rw[iY,hik];refine ah.lay [some 0,some 1] oko ?_
              conv=>whnf
              refine ah.at_ ?_ rfl
              conv=>whnf
              refine And.intro ?_ ?_<;>conv=>whnf
              all_goals repeat' (first|(refine gV ?_;first|refine vE ?_|refine vI ?_|(refine WkN.norm ?_ ?_;(focus (simp[AV.norm,AV.aD,rZ,Bnd.av];done))))|refine gX (xB ?_)|exact True.intro)<;>conv=>whnf
            .obtain rfl:k=out'.length:=by omega
             have hik:fA x.t.num out'=out'.length:=iX k1 k2 λb' hb'=>by simp at hb'
             conv=>whnf
             repeat' (first|(refine gC ?_;first|refine cN ?_|refine gD (cJ ?_))|refine gW (wI ?_)|refine gL (.map ?_)|refine gN (nS ?_))<;>conv=>whnf
             refine⟨(i+1,lT ⟨x.t.num,t⟩ out'),⟨⟨hi,hr3,by rw[fB];omega⟩,by show _-(i+1)<_-i;omega⟩,?_⟩
             dsimp only;rw[iY,hik];refine ah.lay [some 0,some 1] oko ?_
             conv=>whnf
             refine ah.at_ ?_ rfl
             conv=>whnf
             refine And.intro ?_ ?_<;>conv=>whnf
             all_goals repeat' (first|(refine gV ?_;first|refine vE ?_|refine vI ?_|(refine WkN.norm ?_ ?_;(focus (simp[AV.norm,AV.aD,rZ,Bnd.av];done))))|refine gX (xB ?_)|exact True.intro)<;>conv=>whnf
          .refine ab.ate [0,1] htk rfl rfl ?_
           conv=>whnf
           repeat' refine gPr (pT ?_)<;>conv=>whnf
           refine aw.by (fb:=true) (λ_ (k:Nat)=>⟨[(6,.ptr 0 0),(10,.sl .no (m.map msA)),(12,.sl .no (out'.map Bnd.av)),(13,.int .i64 (i:Int)),(15,.ptr 2 0),(16,.sl .full []),(17,.int .i64 (k:Int))],rbs g.nodes g.cls cap++[.cells [.int .i64 x.t.num,.int .i64 t.kind,.int .i64 t.num,.str t.name,.sl .no (t.args.map Tm.av)]],0⟩) (λk=>k<=out'.length/\∀j b,out'[j]? =some b->j<k->b.v<x.t.num) (λk=>out'.length-k) 0 ⟨ZJ _,λj b _ h=>absurd h (Yn _)⟩ ?_ ?_
           .refine ah.lay [some 0,some 1,some 3] oko ?_
            conv=>whnf
            exact au
           .rintro k ⟨k1,k2⟩
            by_cases hk1:k<out'.length
            .obtain ⟨b,hb⟩:∃b,out'[k]? =some b:=⟨_,ZA hk1⟩
             by_cases hlt:b.v<x.t.num
             .conv=>whnf
              repeat' (first|refine gC (gD (cI ?_))|refine gW (wI ?_)|refine gL (.map ?_)|refine gI (gM (iE ?_)))<;>conv=>whnf
              refine⟨k+1,⟨⟨hk1,λj b' hb' hj=>?_⟩,by omega⟩,?_⟩
              .by_cases e:j=k
               .subst e;rw[hb] at hb';cases hb';exact hlt
               .exact k2 j b' hb' (by omega)
              exact au
             .have hik:fA x.t.num out'=k:=iX k1 k2 λb' hb'=>by rw[hb] at hb';cases hb';exact hlt
              conv=>whnf
              repeat' (first|(refine gC ?_;(refine gD ?_;first|refine cI ?_|refine cJ ?_))|refine gW (wI ?_)|refine gL (.map ?_)|refine gN (nS ?_)|refine gI (gM (iE ?_)))<;>conv=>whnf
              refine⟨(i+1,lT ⟨x.t.num,t⟩ out'),⟨⟨hi,hr3,by rw[fB];omega⟩,by show _-(i+1)<_-i;omega⟩,?_⟩
              dsimp only;rw[iY,hik];refine ah.lay [some 0,some 1] oko ?_
              conv=>whnf
              refine ah.at_ ?_ rfl
              conv=>whnf
              refine And.intro ?_ ?_<;>conv=>whnf
              all_goals repeat' (first|(refine gV ?_;first|refine vE ?_|refine vI ?_|(refine WkN.norm ?_ ?_;(focus (simp[AV.norm,AV.aD,rZ,Bnd.av];done))))|refine gX (xB ?_)|exact True.intro)<;>conv=>whnf
            .obtain rfl:k=out'.length:=by omega
             have hik:fA x.t.num out'=out'.length:=iX k1 k2 λb' hb'=>by simp at hb'
             conv=>whnf
             repeat' (first|(refine gC ?_;first|refine cN ?_|refine gD (cJ ?_))|refine gW (wI ?_)|refine gL (.map ?_)|refine gN (nS ?_))<;>conv=>whnf
             refine⟨(i+1,lT ⟨x.t.num,t⟩ out'),⟨⟨hi,hr3,by rw[fB];omega⟩,by show _-(i+1)<_-i;omega⟩,?_⟩
             dsimp only;rw[iY,hik];refine ah.lay [some 0,some 1] oko ?_
             conv=>whnf
             refine ah.at_ ?_ rfl
             conv=>whnf
             refine And.intro ?_ ?_<;>conv=>whnf
             all_goals repeat' (first|(refine gV ?_;first|refine vE ?_|refine vI ?_|(refine WkN.norm ?_ ?_;(focus (simp[AV.norm,AV.aD,rZ,Bnd.av];done))))|refine gX (xB ?_)|exact True.intro)<;>conv=>whnf
       |some k=>
        rw[hsc,show oiN (some k)=(k:Int) from rfl] at hs;have hns:¬(¬x.t.kind=1\/(g.shape c=none/\oiI (g.le c)=x.t.num)):=λe=>e.elim (λe=>e hk1) λe=>by rw[hsc] at e;cases e.1
        conv=>whnf
        repeat' (first|(refine gC ?_;first|refine .not ?_|refine gD (cI ?_))|refine gL (.map ?_)|refine gN (nS ?_)|refine gI (gM (iE ?_))|(refine gE ?_;refine eLn ?_))<;>conv=>whnf
        refine ab.ate [0,1] hs rfl rfl ?_;rw[if_neg hns] at hst
        cases hy:m[c]? with
        |none=>rw[hy] at hst;cases hst
        |some y=>
        rw[hy] at hst;simp only at hst;have hcm:=(ZB.1 hy).1
        by_cases hbig:200<y.1\/20<y.2
        .rw [if_pos hbig] at hst;cases hst;cases hnone rfl;cases h;rcases Decidable.em (200<y.1) with hb1|hb1
         .conv=>whnf
          repeat' (first|(refine gC ?_;first|refine cY ?_|refine cN ?_|refine .not ?_|(refine gD ?_;first|refine cI ?_|refine cJ ?_))|refine gI (gM (iE ?_))|refine gPr (pE ?_))<;>conv=>whnf
          refine af.lay [] oko ?_
          conv=>whnf
          repeat' refine af.nrm ?_<;>conv=>whnf
          all_goals rfl
         .have hb2:20<y.2:=hbig.resolve_left hb1
          conv=>whnf
          repeat' (first|(refine gC ?_;first|refine cN ?_|refine .not ?_|(refine gD ?_;first|refine cI ?_|refine cJ ?_))|refine gI (gM (iE ?_))|refine gPr (pE ?_))<;>conv=>whnf
          refine af.lay [] oko ?_
          conv=>whnf
          repeat' refine af.nrm ?_<;>conv=>whnf
          all_goals rfl
        .rw [if_neg hbig] at hst;have hb1:¬200<y.1:=λe=>hbig (.inl e);have hb2:¬20<y.2:=λe=>hbig (.inr e)
         cases ht:gU g 20 c with
         |none=>rw[ht] at hst;cases hst
         |some t=>
         rw[ht] at hst;cases hst;have htk:=F2 hcap hrk 20 ht;unfold yi at htk
         conv=>whnf
         repeat' (first|(refine gC ?_;first|refine cN ?_|refine .not ?_|(refine gD ?_;first|refine cI ?_|refine cJ ?_))|refine gI (gM (iE ?_))|refine yc.mk ?_ ?_|refine gPr (pE ?_))<;>conv=>whnf
         .refine ab.ate [0,1] htk rfl rfl ?_
          conv=>whnf
          repeat' refine gPr (pT ?_)<;>conv=>whnf
          refine aw.by (fb:=true) (λ_ (k:Nat)=>⟨[(6,.ptr 0 0),(10,.sl .no (m.map msA)),(12,.sl .no (out'.map Bnd.av)),(13,.int .i64 (i:Int)),(15,.ptr 2 0),(16,.sl .full []),(17,.int .i64 (k:Int))],rbs g.nodes g.cls cap++[.cells [.int .i64 x.t.num,.int .i64 t.kind,.int .i64 t.num,.str t.name,.sl .no (t.args.map Tm.av)]],0⟩) (λk=>k<=out'.length/\∀j b,out'[j]? =some b->j<k->b.v<x.t.num) (λk=>out'.length-k) 0 ⟨ZJ _,λj b _ h=>absurd h (Yn _)⟩ ?_ ?_
          .refine ah.lay [some 0,some 1,some 2] oko ?_
           conv=>whnf
           exact au
          .rintro k ⟨k1,k2⟩
           by_cases hk1:k<out'.length
           .obtain ⟨b,hb⟩:∃b,out'[k]? =some b:=⟨_,ZA hk1⟩
            by_cases hlt:b.v<x.t.num
            .conv=>whnf
             repeat' (first|refine gC (gD (cI ?_))|refine gW (wI ?_)|refine gL (.map ?_)|refine gI (gM (iE ?_)))<;>conv=>whnf
             refine⟨k+1,⟨⟨hk1,λj b' hb' hj=>?_⟩,by omega⟩,?_⟩
             .by_cases e:j=k
              .subst e;rw[hb] at hb';cases hb';exact hlt
              .exact k2 j b' hb' (by omega)
             exact au
            .have hik:fA x.t.num out'=k:=iX k1 k2 λb' hb'=>by rw[hb] at hb';cases hb';exact hlt
             conv=>whnf
             repeat' (first|(refine gC ?_;(refine gD ?_;first|refine cI ?_|refine cJ ?_))|refine gW (wI ?_)|refine gL (.map ?_)|refine gN (nS ?_)|refine gI (gM (iE ?_)))<;>conv=>whnf
             refine⟨(i+1,lT ⟨x.t.num,t⟩ out'),⟨⟨hi,hr3,by rw[fB];omega⟩,by show _-(i+1)<_-i;omega⟩,?_⟩
             dsimp only;rw[iY,hik];refine ah.lay [some 0,some 1] oko ?_
             conv=>whnf
             refine ah.at_ ?_ rfl
             conv=>whnf
             refine And.intro ?_ ?_<;>conv=>whnf
             all_goals repeat' (first|(refine gV ?_;first|refine vE ?_|refine vI ?_|(refine WkN.norm ?_ ?_;(focus (simp[AV.norm,AV.aD,rZ,Bnd.av];done))))|refine gX (xB ?_)|exact True.intro)<;>conv=>whnf
           .obtain rfl:k=out'.length:=by omega
            have hik:fA x.t.num out'=out'.length:=iX k1 k2 λb' hb'=>by simp at hb'
            conv=>whnf
            repeat' (first|(refine gC ?_;first|refine cN ?_|refine gD (cJ ?_))|refine gW (wI ?_)|refine gL (.map ?_)|refine gN (nS ?_))<;>conv=>whnf
            refine⟨(i+1,lT ⟨x.t.num,t⟩ out'),⟨⟨hi,hr3,by rw[fB];omega⟩,by show _-(i+1)<_-i;omega⟩,?_⟩
            dsimp only;rw[iY,hik];refine ah.lay [some 0,some 1] oko ?_
            conv=>whnf
            refine ah.at_ ?_ rfl
            conv=>whnf
            refine And.intro ?_ ?_<;>conv=>whnf
            all_goals repeat' (first|(refine gV ?_;first|refine vE ?_|refine vI ?_|(refine WkN.norm ?_ ?_;(focus (simp[AV.norm,AV.aD,rZ,Bnd.av];done))))|refine gX (xB ?_)|exact True.intro)<;>conv=>whnf
         .refine ab.ate [0,1] htk rfl rfl ?_
          conv=>whnf
          repeat' refine gPr (pT ?_)<;>conv=>whnf
          refine aw.by (fb:=true) (λ_ (k:Nat)=>⟨[(6,.ptr 0 0),(10,.sl .no (m.map msA)),(12,.sl .no (out'.map Bnd.av)),(13,.int .i64 (i:Int)),(15,.ptr 2 0),(16,.sl .full []),(17,.int .i64 (k:Int))],rbs g.nodes g.cls cap++[.cells [.int .i64 x.t.num,.int .i64 t.kind,.int .i64 t.num,.str t.name,.sl .no (t.args.map Tm.av)]],0⟩) (λk=>k<=out'.length/\∀j b,out'[j]? =some b->j<k->b.v<x.t.num) (λk=>out'.length-k) 0 ⟨ZJ _,λj b _ h=>absurd h (Yn _)⟩ ?_ ?_
          .refine ah.lay [some 0,some 1,some 3] oko ?_
           conv=>whnf
           exact au
          .rintro k ⟨k1,k2⟩
           by_cases hk1:k<out'.length
           .obtain ⟨b,hb⟩:∃b,out'[k]? =some b:=⟨_,ZA hk1⟩
            by_cases hlt:b.v<x.t.num
            .conv=>whnf
             repeat' (first|refine gC (gD (cI ?_))|refine gW (wI ?_)|refine gL (.map ?_)|refine gI (gM (iE ?_)))<;>conv=>whnf
             refine⟨k+1,⟨⟨hk1,λj b' hb' hj=>?_⟩,by omega⟩,?_⟩
             .by_cases e:j=k
              .subst e;rw[hb] at hb';cases hb';exact hlt
              .exact k2 j b' hb' (by omega)
             exact au
            .have hik:fA x.t.num out'=k:=iX k1 k2 λb' hb'=>by rw[hb] at hb';cases hb';exact hlt
             conv=>whnf
             repeat' (first|(refine gC ?_;(refine gD ?_;first|refine cI ?_|refine cJ ?_))|refine gW (wI ?_)|refine gL (.map ?_)|refine gN (nS ?_)|refine gI (gM (iE ?_)))<;>conv=>whnf
             refine⟨(i+1,lT ⟨x.t.num,t⟩ out'),⟨⟨hi,hr3,by rw[fB];omega⟩,by show _-(i+1)<_-i;omega⟩,?_⟩
             dsimp only;rw[iY,hik];refine ah.lay [some 0,some 1] oko ?_
             conv=>whnf
             refine ah.at_ ?_ rfl
             conv=>whnf
             refine And.intro ?_ ?_<;>conv=>whnf
             all_goals repeat' (first|(refine gV ?_;first|refine vE ?_|refine vI ?_|(refine WkN.norm ?_ ?_;(focus (simp[AV.norm,AV.aD,rZ,Bnd.av];done))))|refine gX (xB ?_)|exact True.intro)<;>conv=>whnf
           .obtain rfl:k=out'.length:=by omega
            have hik:fA x.t.num out'=out'.length:=iX k1 k2 λb' hb'=>by simp at hb'
            conv=>whnf
            repeat' (first|(refine gC ?_;first|refine cN ?_|refine gD (cJ ?_))|refine gW (wI ?_)|refine gL (.map ?_)|refine gN (nS ?_))<;>conv=>whnf
            refine⟨(i+1,lT ⟨x.t.num,t⟩ out'),⟨⟨hi,hr3,by rw[fB];omega⟩,by show _-(i+1)<_-i;omega⟩,?_⟩
            dsimp only;rw[iY,hik];refine ah.lay [some 0,some 1] oko ?_
            conv=>whnf
            refine ah.at_ ?_ rfl
            conv=>whnf
            refine And.intro ?_ ?_<;>conv=>whnf
            all_goals repeat' (first|(refine gV ?_;first|refine vE ?_|refine vI ?_|(refine WkN.norm ?_ ?_;(focus (simp[AV.norm,AV.aD,rZ,Bnd.av];done))))|refine gX (xB ?_)|exact True.intro)<;>conv=>whnf
     .obtain rfl:i=g.nodes.length:=by omega
      rw[hS] at r2;cases r2;cases h
      conv=>whnf
      repeat' (first|refine gC (gD (cJ ?_))|refine gL (.map ?_))<;>conv=>whnf
      refine af.lay [] oko ?_
      conv=>whnf
      repeat' refine af.nrm ?_<;>conv=>whnf
      all_goals rfl
end Go.CK
namespace Go.CK
open Go.AM Go.Proofs
theorem Le{a b:List Tm}{out:List Bnd}{e:Int}(h:BL a b=some (out,e))(hN:Tm.ai a+Tm.ai b<=300000000):Fun Tryz.prog 83 [.sl .no (a.map Tm.av),.sl .no (b.map Tm.av)] (.tup [.sl .no (out.map Bnd.av),.int .i64 e]):=by
 have hla:=bF a;have hlb:=bF b;unfold BL at h;refine Fun.of (lK (by simp) ?_) rfl rfl
 conv=>whnf
 skip;refine aw.by (fb:=true) (λ_ (j:Nat)=>⟨[(0,.sl .no (a.map Tm.av)),(1,.sl .no (b.map Tm.av)),(6,.int .i64 (j:Int))],[],0⟩) (λj=>j<=a.length/\(a.drop j).all Tm.right=a.all Tm.right) (λj=>a.length-j) 0 ⟨ZJ _,rfl⟩ ?_ ?_
 .exact au
 .rintro j ⟨q1,q2⟩
  by_cases hj:j<a.length
  .obtain ⟨x,hx⟩:∃x,a[j]? =some x:=⟨_,ZA hj⟩;have hxn:=bI a hx;have hs:=j6 x (by omega)
   rw[ZH hj,(ZB.1 hx).2,Yp] at q2
   cases hr:x.right with
   |true=>
    rw[hr] at hs;rw[hr,Za] at q2
    conv=>whnf
    repeat' (first|refine gF (ab.fn (hs) ?_)|(refine gC ?_;first|refine cY ?_|refine .not ?_|refine gD (cI ?_))|refine gW (wI ?_)|refine gL (.map ?_)|refine gI (gT (iA ?_)))<;>conv=>whnf
    refine⟨j+1,⟨⟨hj,q2⟩,by omega⟩,?_⟩
    exact au
   |false=>
    rw[hr] at hs;rw[hr,Zu] at q2;rw[<-q2,Zu,if_neg YY] at h;cases h
    conv=>whnf
    repeat' (first|refine gF (ab.fn (hs) ?_)|(refine gC ?_;first|refine cN ?_|refine .not ?_|refine gD (cI ?_))|refine gL (.map ?_)|refine gI (gT (iA ?_))|refine af.nrm ?_)<;>conv=>whnf
    all_goals rfl
  .obtain rfl:j=a.length:=by omega
   rw[Zj,XE] at q2;rw[<-q2,Za] at h
   conv=>whnf
   repeat' (first|refine gC (gD (cJ ?_))|refine gL (.map ?_))<;>conv=>whnf
   refine aw.by (fb:=true) (λ_ (j:Nat)=>⟨[(0,.sl .no (a.map Tm.av)),(1,.sl .no (b.map Tm.av)),(7,.int .i64 (j:Int))],[],0⟩) (λj=>j<=b.length/\(b.drop j).all Tm.right=b.all Tm.right) (λj=>b.length-j) 0 ⟨ZJ _,rfl⟩ ?_ ?_
   .exact au
   .rintro j ⟨q3,q4⟩
    by_cases hj:j<b.length
    .obtain ⟨x,hx⟩:∃x,b[j]? =some x:=⟨_,ZA hj⟩;have hxn:=bI b hx;have hs:=j6 x (by omega)
     rw[ZH hj,(ZB.1 hx).2,Yp] at q4
     cases hr:x.right with
     |true=>
      rw[hr] at hs;rw[hr,Za] at q4
      conv=>whnf
      repeat' (first|refine gF (ab.fn (hs) ?_)|(refine gC ?_;first|refine cY ?_|refine .not ?_|refine gD (cI ?_))|refine gW (wI ?_)|refine gL (.map ?_)|refine gI (gT (iA ?_)))<;>conv=>whnf
      refine⟨j+1,⟨⟨hj,q4⟩,by omega⟩,?_⟩
      exact au
     |false=>
      rw[hr] at hs;rw[hr,Zu] at q4;rw[<-q4,if_neg YY] at h;cases h
      conv=>whnf
      repeat' (first|refine gF (ab.fn (hs) ?_)|(refine gC ?_;first|refine cN ?_|refine .not ?_|refine gD (cI ?_))|refine gL (.map ?_)|refine gI (gT (iA ?_))|refine af.nrm ?_)<;>conv=>whnf
      all_goals rfl
    .obtain rfl:j=b.length:=by omega
     rw[Zj,XE] at q4;rw[<-q4,if_pos rfl] at h
     by_cases hl:a.length=b.length
     .rw [if_pos hl] at h;have hl2:(a.length:Int)=(b.length:Int):=by omega
      have hsv:=Ik (f:=fR) (by unfold B4;exact h) hl (λx hx=>cU (ZS.1 q2.symm x hx)) (λx hx=>cU (ZS.1 q4.symm x hx)) hN (by decide)
      conv=>whnf
      repeat' (first|refine gF (ab.fn (hsv) ?_)|(refine gC ?_;first|refine .not ?_|(refine gD ?_;first|refine cI ?_|refine cJ ?_))|refine gL (.map ?_)|refine af.nrm ?_)<;>conv=>whnf
      all_goals rfl
     .rw [if_neg hl] at h;cases h;have hl2:¬(a.length:Int)=(b.length:Int):=by omega
      conv=>whnf
      repeat' (first|(refine gC ?_;first|refine .not ?_|refine gD (cJ ?_))|refine gL (.map ?_)|refine af.nrm ?_)<;>conv=>whnf
      all_goals rfl
theorem OQ{a b:Tm}{out:List Bnd}{e:Int}(h:BL [a] [b]=some (out,e))(hN:a.nodes+b.nodes<=300000000):Fun Tryz.prog 102 [a.avw,b.avw] (.tup [.sl .no (out.map Bnd.av),.int .i64 e]):=by
 have ha:=Le h (by simp only[Tm.ai];omega)
 simp only[ZP,Yd,Tm.nK] at ha;refine Fun.of (Mv (by simp) ?_) rfl rfl
 conv=>whnf
 repeat' (first|refine gF (ab.fn (ha) ?_)|refine af.nrm ?_)<;>conv=>whnf
theorem N4{a b:Tm}{out:List Bnd}{e:Int}(h:BL [a] [b]=some (out,e))(hN:a.nodes+b.nodes<=300000000):Fun Tryz.prog 66 [a.avw,b.avw] (.bool (L7 e)):=by
 have ha:=OQ h hN;refine Fun.of (Mf (by simp) ?_) rfl rfl
 conv=>whnf
 repeat' (first|refine gF (ab.fn (ha) ?_)|(refine gC ?_;first|(refine gD ?_;first|refine cI ?_|refine cJ ?_)|refine aq.dec (λhc=>?_) (λhc=>?_))|refine af.nrm ?_)<;>conv=>whnf
 all_goals (simp[L7, *])
theorem OI{a b:List Tm}(hN:Tm.ai a+Tm.ai b<=300000000):∃out e,wH fN fF a b=some (out,e)/\BL a b=some (out,e):=by
 obtain⟨out,e,h1,h2,_⟩:=HT hN;obtain⟨out',e',h3,h4⟩:=HS hN;refine⟨out,e,h1,?_⟩
 have:out=out'/\e=e':=by
  split at h2
  .rename_i hr;rw[if_pos hr] at h4;split at h2
   .rename_i hl;rw[if_pos hl] at h4;exact h2.one h4
   .rename_i hl;rw[if_neg hl] at h4;exact⟨h2.1.trans h4.1.symm,h2.2.trans h4.2.symm⟩
  .rename_i hr;rw[if_neg hr] at h4;exact⟨h2.1.trans h4.1.symm,h2.2.trans h4.2.symm⟩
 rw[this.1,this.2];exact h3
end Go.CK
