/-
  Texts of this aQ joined (wip/gen/bundle.py),those declarations only that are needed:UrJ UrK RcAri. By an AI agent.
-/
import Derived.Test.YtahnpgfkkngimaaGreatBbg
import Derived.Test.YtahnpgfkkngimaaGreatBbd
import Derived.Test.YtahnpgfkkngimaaGreatProg
import Derived.Test.YtahnpgfkkngimaaGreatBap
set_option linter.unusedSimpArgs false
set_option linter.unusedVariables false
namespace Go.CK
open Go.AM Go.Proofs
def B4 (f:Nat) (a b:List Tm):Option (List Bnd×Int):=match vX f rg0 (a.zip b) with
 |none=>none
 |some (_,false)=>some ([],13)
 |some (g,true)=>Gb g
theorem RW.rk {g:Rg} (h:RW g) (hl:g.nodes.length≤4000000000):RK g:=⟨h.len,hl,fun i x hx=>qe h.nds hx,fun i x hx h1=>(ix (h.nds.frm i x hx) h1).1⟩
theorem o7 {g:Rg} {m:List (Int×Int)}:∀{n:Nat} {r:Option (List Bnd)},ie g m n=some r->∀i,i≤n->∃r',ie g m i=some r'∧(r'=none->r=none)
 |0,r,h,i,hi=>by
  obtain rfl:i=0:=by omega
  exact ⟨_,h,id⟩
 |n+1,r,h,i,hi=>by
  by_cases e:i=n+1
  ·subst e;exact ⟨_,h,id⟩
  ·rw [ie] at h;split at h
   ·cases h
   ·rename_i h1;cases h;obtain ⟨r',h2,_⟩:=o7 h1 i (by omega)
    exact ⟨r',h2,fun _=>rfl⟩
   ·rename_i out h1;obtain ⟨r',h2,h3⟩:=o7 h1 i (by omega)
    refine ⟨r',h2,fun e=>?_⟩;have:=h3 e;cases this
theorem fB {x:Bnd} {l:List Bnd}:(lT x l).length=l.length+1:=by
 have:=yZ x.v l;unfold lT;rw [List.length_append,List.length_cons,List.length_take,List.length_drop];omega
theorem iY {v:Int} {t:Tm} {l:List Bnd}:(lT ⟨v,t⟩ l).map Bnd.av=(l.map Bnd.av).take (fA v l)++[Bnd.av ⟨v,t⟩]++(l.map Bnd.av).drop (fA v l):=by
 unfold lT;rw [List.map_append,List.map_cons,List.map_take,List.map_drop,List.append_assoc];rfl
theorem rZ {α β:Type} (f:α->β) (l:List α):(l.map f).take l.length=l.map f:=by rw [←List.map_take,List.take_length]
set_option maxHeartbeats 8000000 in
set_option maxRecDepth 100000 in
theorem Ik {f:Nat} {a b:List Tm} {out:List Bnd} {e:Int} (h:B4 f a b=some (out,e)) (hl:a.length=b.length) (hfa:∀x∈a,x.form=true) (hfb:∀x∈b,x.form=true) (hN:Tm.ai a+Tm.ai b≤300000000) (hf:300000000<f):Fun Tryz.prog 116 [.sl .no (a.map Tm.av),.sl .no (b.map Tm.av)] (.tup [.sl .no (out.map Bnd.av),.int .i64 e]):=by
 have hla:=bF a;have hlb:=bF b;unfold B4 at h
 cases hR:vX f rg0 (a.zip b) with
 |none=>rw [hR] at h;cases h
 |some gb=>
  obtain ⟨g,br⟩:=gb;rw [hR] at h;refine Fun.of (jG (by simp) ?_) rfl rfl
  conv=>whnf
  conv=>whnf
  skip;refine aw.by (fb:=true) (fun _ (q:Nat×Rg×Nat)=>⟨[(0,.sl .no (a.map Tm.av)),(1,.sl .no (b.map Tm.av)),(6,.ptr 0 0),(7,.int .i64 (q.1:Int))],rbs q.2.1.nodes q.2.1.cls q.2.2,0⟩) (fun q=>q.1≤a.length∧vX f q.2.1 ((a.zip b).drop q.1)=some (g,br)∧RW q.2.1∧aE q.2.1.nodes q.2.1.R []∧q.2.1.cls.length≤q.2.2∧q.2.1.nodes.length≤Tm.ai (a.take q.1)+Tm.ai (b.take q.1)) (fun q=>a.length-q.1) (0,rg0,0) ⟨Nat.zero_le _,hR,Gt,tx,Nat.le_refl _,Nat.zero_le _⟩ ?_ ?_
  ·refine ah.C2 0 0 4 (l:=[]) rfl (fun y hy=>by cases hy) ?_
   conv=>whnf
   refine ah.cx (.bx 0 1) rfl rfl ?_
   conv=>whnf
   refine ah.lay [some 0,some 1] oko ?_
   conv=>whnf
   refine ah.at_ ?_ rfl
   conv=>whnf
   refine And.intro ?_ ?_<;>conv=>whnf
   all_goals repeat' ((first|(refine gV ?_;first|refine vE ?_|refine vI ?_)|(refine gX ?_;(refine BxN.mk ?_ ?_;(focus (simp [AV.norm,AV.aD,cellsOf,rg0];done))))|exact True.intro)<;>conv=>whnf)
  ·rintro ⟨j,gj,cap⟩ ⟨q1,q2,q3,q4,hcap,q6⟩;dsimp only at q1 q2 q3 q4 hcap q6⊢
   by_cases hj:j<a.length
   ·obtain ⟨x,hx⟩:∃x,a[j]?=some x:=⟨_,List.getElem?_eq_getElem hj⟩;obtain ⟨y,hy⟩:∃y,b[j]?=some y:=⟨_,List.getElem?_eq_getElem (by omega)⟩
    have hz:(a.zip b)[j]?=some (x,y):=List.getElem?_zip_eq_some.2 ⟨hx,hy⟩;have hzl:j<(a.zip b).length:=(List.getElem?_eq_some_iff.1 hz).1;rw [List.drop_eq_getElem_cons hzl,(List.getElem?_eq_some_iff.1 hz).2,vX] at q2;have hxr:=hfa x (List.mem_of_getElem? hx);have hyr:=hfb y (List.mem_of_getElem? hy);have hta:=bI a hx;have htb:=bI b hy;have htk:a.take (j+1)=a.take j++[x]:=by rw [List.take_add_one,hx];rfl
    have htk2:b.take (j+1)=b.take j++[y]:=by rw [List.take_add_one,hy];rfl
    have hjl:=q3.len;have hjb:j<b.length:=by omega
    obtain ⟨a1,n1,a2,a3⟩:=nA x q3 q4 hxr;have l1:=nz gj x;obtain ⟨b1,n2,b2,b3⟩:=nA y a1.gw a1.cl hyr;have l2:=nz (bw gj x).1 y;have hx2:=b1.old _ _ a2;have hcls:=Ea (bw (bw gj x).1 y).1;have hlen2:=b1.gw.len;have hlen1:=a1.gw.len;have hwx:=(List.getElem?_eq_some_iff.1 hx2).1;have hwy:=(List.getElem?_eq_some_iff.1 b2).1
    obtain ⟨g3,b3',e1,e2,e3,e4,e5⟩:=rz f (bw (bw gj x).1 y).1 [] (bw gj x).2 (bw (bw gj x).1 y).2 b1.gw (nE b1.cl) (fun p hp=>by
     rw [List.mem_singleton] at hp;subst hp;exact ⟨hwx,hwy⟩) (by omega)
    rw [e1] at q2;have hrk2:=b1.gw.rk (by omega)
    have hadd:=DY x (nu x hxr) gj cap hcap (by omega) (by omega)
    have hadd2:=fun cp hcp=>DY y (nu y hyr) (bw gj x).1 cp hcp (by omega) (by omega)
    have hjo:=fun cp hcp=>Kr (cap:=cp) f e1 hcp hrk2.len hrk2.lim hrk2.six;unfold lW at hadd hadd2;clear a2 a3 b2 b3 hx2 e5 hrk2 hcls hwx hwy;generalize bw gj x=gx at*;obtain ⟨g1,k1⟩:=gx;dsimp only at*;generalize bw g1 y=gy at*;obtain ⟨g2,k2⟩:=gy;dsimp only at*
    conv=>whnf
    repeat' ((first|(refine gC ?_;(refine gD ?_;refine cI ?_))|(refine gL ?_;refine .map ?_)|(refine gI ?_;(refine gT ?_;refine iA ?_)))<;>conv=>whnf)
    refine ab.at [0,1] hadd rfl rfl ?_ oko ?_
    ·rintro r bs' ⟨rfl,cp,hcp,rfl⟩;exact ⟨rfl,rfl,oko⟩
    rintro r bs' ⟨rfl,cp,hcp,rfl⟩
    conv=>whnf
    repeat' ((refine gI ?_;(refine gT ?_;refine iA ?_))<;>conv=>whnf)
    refine ab.at [0,2] (hadd2 cp hcp) rfl rfl ?_ oko ?_
    ·rintro r bs' ⟨rfl,cp,hcp,rfl⟩;exact ⟨rfl,rfl,oko⟩
    rintro r bs' ⟨rfl,cp2,hcp2,rfl⟩
    conv=>whnf
    skip;refine ab.ate [0,3] (hjo cp2 hcp2) rfl rfl ?_
    cases b3' with
    |false=>
     cases q2;cases h
     conv=>whnf
     repeat' ((refine gC ?_;first|refine cN ?_|refine .not ?_)<;>conv=>whnf)
     refine af.lay [] oko ?_
     conv=>whnf
     conv=>whnf
     repeat' (refine af.nrm ?_<;>conv=>whnf)
     all_goals rfl
    |true=>
     simp only at q2;obtain ⟨w1,w2,_,_⟩:=e4 rfl
     conv=>whnf
     repeat' ((first|(refine gC ?_;first|refine cY ?_|refine .not ?_)|(refine gW ?_;refine wI ?_))<;>conv=>whnf)
     refine ⟨(j+1,g3,cp2),⟨⟨hj,q2,w1,w2,by show g3.cls.length≤cp2;omega,?_⟩,by show _-(j+1)<_-j;omega⟩,?_⟩
     ·show g3.nodes.length≤Tm.ai (a.take (j+1))+Tm.ai (b.take (j+1));rw [e2,htk,htk2,cX,cX];omega
     dsimp only;refine ah.lay [some 0,some 3] oko ?_
     conv=>whnf
     exact au
   ·obtain rfl:j=a.length:=by omega
    rw [List.drop_of_length_le (by rw [List.length_zip];omega),vX] at q2
    cases q2;simp only at h;rw [List.take_of_length_le (Nat.le_refl _),List.take_of_length_le (by omega)] at q6
    have hrk:=q3.rk (by omega)
    have hll:=q3.len;unfold Gb at h
    cases hme:Au g with
    |none=>rw [hme] at h;cases h
    |some mo=>
    rw [hme] at h;have hmk:=Cy hcap hrk hme;unfold DG at hmk
    cases mo with
    |none=>
     cases h
     conv=>whnf
     repeat' ((first|(refine gF ?_;refine ab.to (hmk) ?_)|(refine gC ?_;first|refine cN ?_|refine .not ?_|(refine gD ?_;refine cJ ?_))|(refine gL ?_;refine .map ?_))<;>conv=>whnf)
     refine af.lay [] oko ?_
     conv=>whnf
     conv=>whnf
     repeat' (refine af.nrm ?_<;>conv=>whnf)
     all_goals rfl
    |some m=>
    simp only at h
    cases hS:ie g m g.nodes.length with
    |none=>rw [hS] at h;cases h
    |some so=>
    rw [hS] at h
    conv=>whnf
    repeat' ((first|(refine gF ?_;refine ab.to (hmk) ?_)|(refine gC ?_;first|refine cY ?_|refine .not ?_|(refine gD ?_;refine cJ ?_))|(refine gL ?_;refine .map ?_))<;>conv=>whnf)
    refine aw.by (fb:=true) (fun _ (q:Nat×List Bnd)=>⟨[(6,.ptr 0 0),(10,.sl .no (m.map msA)),(12,.sl .no (q.2.map Bnd.av)),(13,.int .i64 (q.1:Int))],rbs g.nodes g.cls cap,0⟩) (fun q=>q.1≤g.nodes.length∧ie g m q.1=some (some q.2)∧q.2.length≤q.1) (fun q=>g.nodes.length-q.1) (0,[]) ⟨Nat.zero_le _,rfl,Nat.le_refl _⟩ ?_ ?_
    ·refine ah.at_ ?_ rfl
     conv=>whnf
     refine And.intro ?_ ?_<;>conv=>whnf
     all_goals repeat' ((first|(refine gV ?_;first|refine vE ?_|refine vI ?_|(refine WkN.norm ?_ ?_;(focus (simp [AV.norm,AV.aD,];done))))|(refine gX ?_;refine xB ?_)|exact True.intro)<;>conv=>whnf)
    ·rintro ⟨i,out'⟩ ⟨r1,r2,r3⟩;dsimp only at r1 r2 r3⊢
     by_cases hi:i<g.nodes.length
     ·obtain ⟨r',hr3,hnone⟩:=o7 hS (i+1) (by omega)
      have hst:=hr3;rw [ie,r2] at hst;simp only at hst;rw [GM] at hst
      cases hx:g.nodes[i]? with
      |none=>rw [hx] at hst;cases hst
      |some x=>
      cases hc:g.cls[i]? with
      |none=>rw [hx,hc] at hst;cases hst
      |some c=>
      rw [hx,hc] at hst;simp only at hst;have hs:=pJ (c:=c) hcap hrk.len hrk.lim;have hle:=DI (c:=c) hcap hrk.len hrk.lim hrk.pos
      by_cases hk1:x.t.kind=1
      rotate_left
      ·rw [if_pos (.inl hk1)] at hst;cases hst
       conv=>whnf
       repeat' ((first|(refine gC ?_;first|refine cY ?_|refine .not ?_|(refine gD ?_;first|refine cI ?_|refine cJ ?_))|(refine gW ?_;refine wI ?_)|(refine gL ?_;refine .map ?_)|(refine gN ?_;refine nS ?_)|(refine gI ?_;(refine gM ?_;refine iE ?_))|(refine gE ?_;refine eLn ?_)|(refine gPr ?_;refine pE ?_))<;>conv=>whnf)
       refine ⟨(i+1,out'),⟨⟨hi,hr3,by show out'.length≤i+1;omega⟩,by show _-(i+1)<_-i;omega⟩,?_⟩
       exact au
      ·cases hsc:g.shape c with
       |none=>
        rw [hsc,show oiN none=-1 from rfl] at hs
        by_cases hlv:oiI (g.le c)=x.t.num
        ·rw [if_pos (.inr ⟨hsc,hlv⟩)] at hst
         conv=>whnf
         repeat' ((first|(refine gC ?_;first|refine .not ?_|(refine gD ?_;refine cI ?_))|(refine gL ?_;refine .map ?_)|(refine gN ?_;refine nS ?_)|(refine gI ?_;(refine gM ?_;refine iE ?_))|(refine gE ?_;refine eLn ?_))<;>conv=>whnf)
         refine ab.ate [0,1] hs rfl rfl ?_
         conv=>whnf
         repeat' ((first|(refine gC ?_;first|refine .not ?_|(refine gD ?_;refine cI ?_))|(refine gI ?_;(refine gM ?_;refine iE ?_)))<;>conv=>whnf)
         refine ab.ate [0,1] hle rfl rfl ?_;cases hst
         conv=>whnf
         repeat' ((first|(refine gC ?_;first|refine .not ?_|(refine gD ?_;refine cI ?_))|(refine gW ?_;refine wI ?_)|(refine gPr ?_;refine pE ?_))<;>conv=>whnf)
         refine ⟨(i+1,out'),⟨⟨hi,hr3,by show out'.length≤i+1;omega⟩,by show _-(i+1)<_-i;omega⟩,?_⟩
         exact au
        ·have hns:¬(¬x.t.kind=1∨(g.shape c=none∧oiI (g.le c)=x.t.num)):=fun e=>e.elim (fun e=>e hk1) fun e=>hlv e.2
         conv=>whnf
         repeat' ((first|(refine gC ?_;first|refine .not ?_|(refine gD ?_;refine cI ?_))|(refine gL ?_;refine .map ?_)|(refine gN ?_;refine nS ?_)|(refine gI ?_;(refine gM ?_;refine iE ?_))|(refine gE ?_;refine eLn ?_))<;>conv=>whnf)
         refine ab.ate [0,1] hs rfl rfl ?_
         conv=>whnf
         repeat' ((first|(refine gC ?_;first|refine .not ?_|(refine gD ?_;refine cI ?_))|(refine gI ?_;(refine gM ?_;refine iE ?_)))<;>conv=>whnf)
         refine ab.ate [0,1] hle rfl rfl ?_;rw [if_neg hns] at hst
         cases hy:m[c]? with
         |none=>rw [hy] at hst;cases hst
         |some y=>
         rw [hy] at hst;simp only at hst;have hcm:=(List.getElem?_eq_some_iff.1 hy).1
         by_cases hbig:200<y.1∨20<y.2
         ·rw [if_pos hbig] at hst;cases hst;cases hnone rfl;cases h;rcases Decidable.em (200<y.1) with hb1|hb1
          ·conv=>whnf
           repeat' ((first|(refine gC ?_;first|refine cY ?_|refine .not ?_|(refine gD ?_;first|refine cI ?_|refine cJ ?_))|(refine gI ?_;(refine gM ?_;refine iE ?_))|(refine gPr ?_;refine pE ?_))<;>conv=>whnf)
           refine af.lay [] oko ?_
           conv=>whnf
           conv=>whnf
           repeat' (refine af.nrm ?_<;>conv=>whnf)
           all_goals rfl
          ·have hb2:20<y.2:=hbig.resolve_left hb1
           conv=>whnf
           repeat' ((first|(refine gC ?_;first|refine .not ?_|(refine gD ?_;first|refine cI ?_|refine cJ ?_))|(refine gI ?_;(refine gM ?_;refine iE ?_))|(refine gPr ?_;refine pE ?_))<;>conv=>whnf)
           refine af.lay [] oko ?_
           conv=>whnf
           conv=>whnf
           repeat' (refine af.nrm ?_<;>conv=>whnf)
           all_goals rfl
         ·rw [if_neg hbig] at hst;have hb1:¬200<y.1:=fun e=>hbig (.inl e);have hb2:¬20<y.2:=fun e=>hbig (.inr e)
          cases ht:gU g 20 c with
          |none=>rw [ht] at hst;cases hst
          |some t=>
          rw [ht] at hst;cases hst;have htk:=F2 hcap hrk 20 ht;unfold yi at htk
          conv=>whnf
          repeat' ((first|(refine gC ?_;first|refine .not ?_|(refine gD ?_;first|refine cI ?_|refine cJ ?_))|(refine gI ?_;(refine gM ?_;refine iE ?_))|refine yc.mk ?_ ?_|(refine gPr ?_;refine pE ?_))<;>conv=>whnf)
          ·refine ab.ate [0,1] htk rfl rfl ?_
           conv=>whnf
           repeat' ((refine gPr ?_;refine pT ?_)<;>conv=>whnf)
           refine aw.by (fb:=true) (fun _ (k:Nat)=>⟨[(6,.ptr 0 0),(10,.sl .no (m.map msA)),(12,.sl .no (out'.map Bnd.av)),(13,.int .i64 (i:Int)),(15,.ptr 2 0),(16,.sl .full []),(17,.int .i64 (k:Int))],rbs g.nodes g.cls cap++[.cells [.int .i64 x.t.num,.int .i64 t.kind,.int .i64 t.num,.str t.name,.sl .no (t.args.map Tm.av)]],0⟩) (fun k=>k≤out'.length∧∀j b,out'[j]?=some b->j<k->b.v<x.t.num) (fun k=>out'.length-k) 0 ⟨Nat.zero_le _,fun j b _ h=>absurd h (Nat.not_lt_zero _)⟩ ?_ ?_
           ·refine ah.lay [some 0,some 1,some 2] oko ?_
            conv=>whnf
            exact au
           ·rintro k ⟨k1,k2⟩
            by_cases hk1:k<out'.length
            ·obtain ⟨b,hb⟩:∃b,out'[k]?=some b:=⟨_,List.getElem?_eq_getElem hk1⟩
             by_cases hlt:b.v<x.t.num
             ·conv=>whnf
              repeat' ((first|(refine gC ?_;(refine gD ?_;refine cI ?_))|(refine gW ?_;refine wI ?_)|(refine gL ?_;refine .map ?_)|(refine gI ?_;(refine gM ?_;refine iE ?_)))<;>conv=>whnf)
              refine ⟨k+1,⟨⟨hk1,fun j b' hb' hj=>?_⟩,by omega⟩,?_⟩
              ·by_cases e:j=k
               ·subst e;rw [hb] at hb';cases hb';exact hlt
               ·exact k2 j b' hb' (by omega)
              exact au
             ·have hik:fA x.t.num out'=k:=iX k1 k2 fun b' hb'=>by rw [hb] at hb';cases hb';exact hlt
              conv=>whnf
              repeat' ((first|(refine gC ?_;(refine gD ?_;first|refine cI ?_|refine cJ ?_))|(refine gW ?_;refine wI ?_)|(refine gL ?_;refine .map ?_)|(refine gN ?_;refine nS ?_)|(refine gI ?_;(refine gM ?_;refine iE ?_)))<;>conv=>whnf)
              refine ⟨(i+1,lT ⟨x.t.num,t⟩ out'),⟨⟨hi,hr3,by rw [fB];omega⟩,by show _-(i+1)<_-i;omega⟩,?_⟩
              dsimp only;rw [iY,hik];refine ah.lay [some 0,some 1] oko ?_
              conv=>whnf
              refine ah.at_ ?_ rfl
              conv=>whnf
              refine And.intro ?_ ?_<;>conv=>whnf
              all_goals repeat' ((first|(refine gV ?_;first|refine vE ?_|refine vI ?_|(refine WkN.norm ?_ ?_;(focus (simp [AV.norm,AV.aD,rZ,Bnd.av];done))))|(refine gX ?_;refine xB ?_)|exact True.intro)<;>conv=>whnf)
            ·obtain rfl:k=out'.length:=by omega
             have hik:fA x.t.num out'=out'.length:=iX k1 k2 fun b' hb'=>by simp at hb'
             conv=>whnf
             repeat' ((first|(refine gC ?_;first|refine cN ?_|(refine gD ?_;refine cJ ?_))|(refine gW ?_;refine wI ?_)|(refine gL ?_;refine .map ?_)|(refine gN ?_;refine nS ?_))<;>conv=>whnf)
             refine ⟨(i+1,lT ⟨x.t.num,t⟩ out'),⟨⟨hi,hr3,by rw [fB];omega⟩,by show _-(i+1)<_-i;omega⟩,?_⟩
             dsimp only;rw [iY,hik];refine ah.lay [some 0,some 1] oko ?_
             conv=>whnf
             refine ah.at_ ?_ rfl
             conv=>whnf
             refine And.intro ?_ ?_<;>conv=>whnf
             all_goals repeat' ((first|(refine gV ?_;first|refine vE ?_|refine vI ?_|(refine WkN.norm ?_ ?_;(focus (simp [AV.norm,AV.aD,rZ,Bnd.av];done))))|(refine gX ?_;refine xB ?_)|exact True.intro)<;>conv=>whnf)
          ·refine ab.ate [0,1] htk rfl rfl ?_
           conv=>whnf
           repeat' ((refine gPr ?_;refine pT ?_)<;>conv=>whnf)
           refine aw.by (fb:=true) (fun _ (k:Nat)=>⟨[(6,.ptr 0 0),(10,.sl .no (m.map msA)),(12,.sl .no (out'.map Bnd.av)),(13,.int .i64 (i:Int)),(15,.ptr 2 0),(16,.sl .full []),(17,.int .i64 (k:Int))],rbs g.nodes g.cls cap++[.cells [.int .i64 x.t.num,.int .i64 t.kind,.int .i64 t.num,.str t.name,.sl .no (t.args.map Tm.av)]],0⟩) (fun k=>k≤out'.length∧∀j b,out'[j]?=some b->j<k->b.v<x.t.num) (fun k=>out'.length-k) 0 ⟨Nat.zero_le _,fun j b _ h=>absurd h (Nat.not_lt_zero _)⟩ ?_ ?_
           ·refine ah.lay [some 0,some 1,some 3] oko ?_
            conv=>whnf
            exact au
           ·rintro k ⟨k1,k2⟩
            by_cases hk1:k<out'.length
            ·obtain ⟨b,hb⟩:∃b,out'[k]?=some b:=⟨_,List.getElem?_eq_getElem hk1⟩
             by_cases hlt:b.v<x.t.num
             ·conv=>whnf
              repeat' ((first|(refine gC ?_;(refine gD ?_;refine cI ?_))|(refine gW ?_;refine wI ?_)|(refine gL ?_;refine .map ?_)|(refine gI ?_;(refine gM ?_;refine iE ?_)))<;>conv=>whnf)
              refine ⟨k+1,⟨⟨hk1,fun j b' hb' hj=>?_⟩,by omega⟩,?_⟩
              ·by_cases e:j=k
               ·subst e;rw [hb] at hb';cases hb';exact hlt
               ·exact k2 j b' hb' (by omega)
              exact au
             ·have hik:fA x.t.num out'=k:=iX k1 k2 fun b' hb'=>by rw [hb] at hb';cases hb';exact hlt
              conv=>whnf
              repeat' ((first|(refine gC ?_;(refine gD ?_;first|refine cI ?_|refine cJ ?_))|(refine gW ?_;refine wI ?_)|(refine gL ?_;refine .map ?_)|(refine gN ?_;refine nS ?_)|(refine gI ?_;(refine gM ?_;refine iE ?_)))<;>conv=>whnf)
              refine ⟨(i+1,lT ⟨x.t.num,t⟩ out'),⟨⟨hi,hr3,by rw [fB];omega⟩,by show _-(i+1)<_-i;omega⟩,?_⟩
              dsimp only;rw [iY,hik];refine ah.lay [some 0,some 1] oko ?_
              conv=>whnf
              refine ah.at_ ?_ rfl
              conv=>whnf
              refine And.intro ?_ ?_<;>conv=>whnf
              all_goals repeat' ((first|(refine gV ?_;first|refine vE ?_|refine vI ?_|(refine WkN.norm ?_ ?_;(focus (simp [AV.norm,AV.aD,rZ,Bnd.av];done))))|(refine gX ?_;refine xB ?_)|exact True.intro)<;>conv=>whnf)
            ·obtain rfl:k=out'.length:=by omega
             have hik:fA x.t.num out'=out'.length:=iX k1 k2 fun b' hb'=>by simp at hb'
             conv=>whnf
             repeat' ((first|(refine gC ?_;first|refine cN ?_|(refine gD ?_;refine cJ ?_))|(refine gW ?_;refine wI ?_)|(refine gL ?_;refine .map ?_)|(refine gN ?_;refine nS ?_))<;>conv=>whnf)
             refine ⟨(i+1,lT ⟨x.t.num,t⟩ out'),⟨⟨hi,hr3,by rw [fB];omega⟩,by show _-(i+1)<_-i;omega⟩,?_⟩
             dsimp only;rw [iY,hik];refine ah.lay [some 0,some 1] oko ?_
             conv=>whnf
             refine ah.at_ ?_ rfl
             conv=>whnf
             refine And.intro ?_ ?_<;>conv=>whnf
             all_goals repeat' ((first|(refine gV ?_;first|refine vE ?_|refine vI ?_|(refine WkN.norm ?_ ?_;(focus (simp [AV.norm,AV.aD,rZ,Bnd.av];done))))|(refine gX ?_;refine xB ?_)|exact True.intro)<;>conv=>whnf)
       |some k=>
        rw [hsc,show oiN (some k)=(k:Int) from rfl] at hs;have hns:¬(¬x.t.kind=1∨(g.shape c=none∧oiI (g.le c)=x.t.num)):=fun e=>e.elim (fun e=>e hk1) fun e=>by rw [hsc] at e;cases e.1
        conv=>whnf
        repeat' ((first|(refine gC ?_;first|refine .not ?_|(refine gD ?_;refine cI ?_))|(refine gL ?_;refine .map ?_)|(refine gN ?_;refine nS ?_)|(refine gI ?_;(refine gM ?_;refine iE ?_))|(refine gE ?_;refine eLn ?_))<;>conv=>whnf)
        refine ab.ate [0,1] hs rfl rfl ?_;rw [if_neg hns] at hst
        cases hy:m[c]? with
        |none=>rw [hy] at hst;cases hst
        |some y=>
        rw [hy] at hst;simp only at hst;have hcm:=(List.getElem?_eq_some_iff.1 hy).1
        by_cases hbig:200<y.1∨20<y.2
        ·rw [if_pos hbig] at hst;cases hst;cases hnone rfl;cases h;rcases Decidable.em (200<y.1) with hb1|hb1
         ·conv=>whnf
          repeat' ((first|(refine gC ?_;first|refine cY ?_|refine cN ?_|refine .not ?_|(refine gD ?_;first|refine cI ?_|refine cJ ?_))|(refine gI ?_;(refine gM ?_;refine iE ?_))|(refine gPr ?_;refine pE ?_))<;>conv=>whnf)
          refine af.lay [] oko ?_
          conv=>whnf
          conv=>whnf
          repeat' (refine af.nrm ?_<;>conv=>whnf)
          all_goals rfl
         ·have hb2:20<y.2:=hbig.resolve_left hb1
          conv=>whnf
          repeat' ((first|(refine gC ?_;first|refine cN ?_|refine .not ?_|(refine gD ?_;first|refine cI ?_|refine cJ ?_))|(refine gI ?_;(refine gM ?_;refine iE ?_))|(refine gPr ?_;refine pE ?_))<;>conv=>whnf)
          refine af.lay [] oko ?_
          conv=>whnf
          conv=>whnf
          repeat' (refine af.nrm ?_<;>conv=>whnf)
          all_goals rfl
        ·rw [if_neg hbig] at hst;have hb1:¬200<y.1:=fun e=>hbig (.inl e);have hb2:¬20<y.2:=fun e=>hbig (.inr e)
         cases ht:gU g 20 c with
         |none=>rw [ht] at hst;cases hst
         |some t=>
         rw [ht] at hst;cases hst;have htk:=F2 hcap hrk 20 ht;unfold yi at htk
         conv=>whnf
         repeat' ((first|(refine gC ?_;first|refine cN ?_|refine .not ?_|(refine gD ?_;first|refine cI ?_|refine cJ ?_))|(refine gI ?_;(refine gM ?_;refine iE ?_))|refine yc.mk ?_ ?_|(refine gPr ?_;refine pE ?_))<;>conv=>whnf)
         ·refine ab.ate [0,1] htk rfl rfl ?_
          conv=>whnf
          repeat' ((refine gPr ?_;refine pT ?_)<;>conv=>whnf)
          refine aw.by (fb:=true) (fun _ (k:Nat)=>⟨[(6,.ptr 0 0),(10,.sl .no (m.map msA)),(12,.sl .no (out'.map Bnd.av)),(13,.int .i64 (i:Int)),(15,.ptr 2 0),(16,.sl .full []),(17,.int .i64 (k:Int))],rbs g.nodes g.cls cap++[.cells [.int .i64 x.t.num,.int .i64 t.kind,.int .i64 t.num,.str t.name,.sl .no (t.args.map Tm.av)]],0⟩) (fun k=>k≤out'.length∧∀j b,out'[j]?=some b->j<k->b.v<x.t.num) (fun k=>out'.length-k) 0 ⟨Nat.zero_le _,fun j b _ h=>absurd h (Nat.not_lt_zero _)⟩ ?_ ?_
          ·refine ah.lay [some 0,some 1,some 2] oko ?_
           conv=>whnf
           exact au
          ·rintro k ⟨k1,k2⟩
           by_cases hk1:k<out'.length
           ·obtain ⟨b,hb⟩:∃b,out'[k]?=some b:=⟨_,List.getElem?_eq_getElem hk1⟩
            by_cases hlt:b.v<x.t.num
            ·conv=>whnf
             repeat' ((first|(refine gC ?_;(refine gD ?_;refine cI ?_))|(refine gW ?_;refine wI ?_)|(refine gL ?_;refine .map ?_)|(refine gI ?_;(refine gM ?_;refine iE ?_)))<;>conv=>whnf)
             refine ⟨k+1,⟨⟨hk1,fun j b' hb' hj=>?_⟩,by omega⟩,?_⟩
             ·by_cases e:j=k
              ·subst e;rw [hb] at hb';cases hb';exact hlt
              ·exact k2 j b' hb' (by omega)
             exact au
            ·have hik:fA x.t.num out'=k:=iX k1 k2 fun b' hb'=>by rw [hb] at hb';cases hb';exact hlt
             conv=>whnf
             repeat' ((first|(refine gC ?_;(refine gD ?_;first|refine cI ?_|refine cJ ?_))|(refine gW ?_;refine wI ?_)|(refine gL ?_;refine .map ?_)|(refine gN ?_;refine nS ?_)|(refine gI ?_;(refine gM ?_;refine iE ?_)))<;>conv=>whnf)
             refine ⟨(i+1,lT ⟨x.t.num,t⟩ out'),⟨⟨hi,hr3,by rw [fB];omega⟩,by show _-(i+1)<_-i;omega⟩,?_⟩
             dsimp only;rw [iY,hik];refine ah.lay [some 0,some 1] oko ?_
             conv=>whnf
             refine ah.at_ ?_ rfl
             conv=>whnf
             refine And.intro ?_ ?_<;>conv=>whnf
             all_goals repeat' ((first|(refine gV ?_;first|refine vE ?_|refine vI ?_|(refine WkN.norm ?_ ?_;(focus (simp [AV.norm,AV.aD,rZ,Bnd.av];done))))|(refine gX ?_;refine xB ?_)|exact True.intro)<;>conv=>whnf)
           ·obtain rfl:k=out'.length:=by omega
            have hik:fA x.t.num out'=out'.length:=iX k1 k2 fun b' hb'=>by simp at hb'
            conv=>whnf
            repeat' ((first|(refine gC ?_;first|refine cN ?_|(refine gD ?_;refine cJ ?_))|(refine gW ?_;refine wI ?_)|(refine gL ?_;refine .map ?_)|(refine gN ?_;refine nS ?_))<;>conv=>whnf)
            refine ⟨(i+1,lT ⟨x.t.num,t⟩ out'),⟨⟨hi,hr3,by rw [fB];omega⟩,by show _-(i+1)<_-i;omega⟩,?_⟩
            dsimp only;rw [iY,hik];refine ah.lay [some 0,some 1] oko ?_
            conv=>whnf
            refine ah.at_ ?_ rfl
            conv=>whnf
            refine And.intro ?_ ?_<;>conv=>whnf
            all_goals repeat' ((first|(refine gV ?_;first|refine vE ?_|refine vI ?_|(refine WkN.norm ?_ ?_;(focus (simp [AV.norm,AV.aD,rZ,Bnd.av];done))))|(refine gX ?_;refine xB ?_)|exact True.intro)<;>conv=>whnf)
         ·refine ab.ate [0,1] htk rfl rfl ?_
          conv=>whnf
          repeat' ((refine gPr ?_;refine pT ?_)<;>conv=>whnf)
          refine aw.by (fb:=true) (fun _ (k:Nat)=>⟨[(6,.ptr 0 0),(10,.sl .no (m.map msA)),(12,.sl .no (out'.map Bnd.av)),(13,.int .i64 (i:Int)),(15,.ptr 2 0),(16,.sl .full []),(17,.int .i64 (k:Int))],rbs g.nodes g.cls cap++[.cells [.int .i64 x.t.num,.int .i64 t.kind,.int .i64 t.num,.str t.name,.sl .no (t.args.map Tm.av)]],0⟩) (fun k=>k≤out'.length∧∀j b,out'[j]?=some b->j<k->b.v<x.t.num) (fun k=>out'.length-k) 0 ⟨Nat.zero_le _,fun j b _ h=>absurd h (Nat.not_lt_zero _)⟩ ?_ ?_
          ·refine ah.lay [some 0,some 1,some 3] oko ?_
           conv=>whnf
           exact au
          ·rintro k ⟨k1,k2⟩
           by_cases hk1:k<out'.length
           ·obtain ⟨b,hb⟩:∃b,out'[k]?=some b:=⟨_,List.getElem?_eq_getElem hk1⟩
            by_cases hlt:b.v<x.t.num
            ·conv=>whnf
             repeat' ((first|(refine gC ?_;(refine gD ?_;refine cI ?_))|(refine gW ?_;refine wI ?_)|(refine gL ?_;refine .map ?_)|(refine gI ?_;(refine gM ?_;refine iE ?_)))<;>conv=>whnf)
             refine ⟨k+1,⟨⟨hk1,fun j b' hb' hj=>?_⟩,by omega⟩,?_⟩
             ·by_cases e:j=k
              ·subst e;rw [hb] at hb';cases hb';exact hlt
              ·exact k2 j b' hb' (by omega)
             exact au
            ·have hik:fA x.t.num out'=k:=iX k1 k2 fun b' hb'=>by rw [hb] at hb';cases hb';exact hlt
             conv=>whnf
             repeat' ((first|(refine gC ?_;(refine gD ?_;first|refine cI ?_|refine cJ ?_))|(refine gW ?_;refine wI ?_)|(refine gL ?_;refine .map ?_)|(refine gN ?_;refine nS ?_)|(refine gI ?_;(refine gM ?_;refine iE ?_)))<;>conv=>whnf)
             refine ⟨(i+1,lT ⟨x.t.num,t⟩ out'),⟨⟨hi,hr3,by rw [fB];omega⟩,by show _-(i+1)<_-i;omega⟩,?_⟩
             dsimp only;rw [iY,hik];refine ah.lay [some 0,some 1] oko ?_
             conv=>whnf
             refine ah.at_ ?_ rfl
             conv=>whnf
             refine And.intro ?_ ?_<;>conv=>whnf
             all_goals repeat' ((first|(refine gV ?_;first|refine vE ?_|refine vI ?_|(refine WkN.norm ?_ ?_;(focus (simp [AV.norm,AV.aD,rZ,Bnd.av];done))))|(refine gX ?_;refine xB ?_)|exact True.intro)<;>conv=>whnf)
           ·obtain rfl:k=out'.length:=by omega
            have hik:fA x.t.num out'=out'.length:=iX k1 k2 fun b' hb'=>by simp at hb'
            conv=>whnf
            repeat' ((first|(refine gC ?_;first|refine cN ?_|(refine gD ?_;refine cJ ?_))|(refine gW ?_;refine wI ?_)|(refine gL ?_;refine .map ?_)|(refine gN ?_;refine nS ?_))<;>conv=>whnf)
            refine ⟨(i+1,lT ⟨x.t.num,t⟩ out'),⟨⟨hi,hr3,by rw [fB];omega⟩,by show _-(i+1)<_-i;omega⟩,?_⟩
            dsimp only;rw [iY,hik];refine ah.lay [some 0,some 1] oko ?_
            conv=>whnf
            refine ah.at_ ?_ rfl
            conv=>whnf
            refine And.intro ?_ ?_<;>conv=>whnf
            all_goals repeat' ((first|(refine gV ?_;first|refine vE ?_|refine vI ?_|(refine WkN.norm ?_ ?_;(focus (simp [AV.norm,AV.aD,rZ,Bnd.av];done))))|(refine gX ?_;refine xB ?_)|exact True.intro)<;>conv=>whnf)
     ·obtain rfl:i=g.nodes.length:=by omega
      rw [hS] at r2;cases r2;cases h
      conv=>whnf
      repeat' ((first|(refine gC ?_;(refine gD ?_;refine cJ ?_))|(refine gL ?_;refine .map ?_))<;>conv=>whnf)
      refine af.lay [] oko ?_
      conv=>whnf
      conv=>whnf
      repeat' (refine af.nrm ?_<;>conv=>whnf)
      all_goals rfl
end Go.CK
namespace Go.CK
open Go.AM Go.Proofs
set_option maxRecDepth 100000 in
theorem Le {a b:List Tm} {out:List Bnd} {e:Int} (h:BL a b=some (out,e)) (hN:Tm.ai a+Tm.ai b≤300000000):Fun Tryz.prog 83 [.sl .no (a.map Tm.av),.sl .no (b.map Tm.av)] (.tup [.sl .no (out.map Bnd.av),.int .i64 e]):=by
 have hla:=bF a;have hlb:=bF b;unfold BL at h;refine Fun.of (lK (by simp) ?_) rfl rfl
 conv=>whnf
 conv=>whnf
 skip;refine aw.by (fb:=true) (fun _ (j:Nat)=>⟨[(0,.sl .no (a.map Tm.av)),(1,.sl .no (b.map Tm.av)),(6,.int .i64 (j:Int))],[],0⟩) (fun j=>j≤a.length∧(a.drop j).all Tm.right=a.all Tm.right) (fun j=>a.length-j) 0 ⟨Nat.zero_le _,rfl⟩ ?_ ?_
 ·exact au
 ·rintro j ⟨q1,q2⟩
  by_cases hj:j<a.length
  ·obtain ⟨x,hx⟩:∃x,a[j]?=some x:=⟨_,List.getElem?_eq_getElem hj⟩;have hxn:=bI a hx;have hs:=j6 x (by omega)
   rw [List.drop_eq_getElem_cons hj,(List.getElem?_eq_some_iff.1 hx).2,List.all_cons] at q2
   cases hr:x.right with
   |true=>
    rw [hr] at hs;rw [hr,Bool.true_and] at q2
    conv=>whnf
    repeat' ((first|(refine gF ?_;refine ab.fn (hs) ?_)|(refine gC ?_;first|refine cY ?_|refine .not ?_|(refine gD ?_;refine cI ?_))|(refine gW ?_;refine wI ?_)|(refine gL ?_;refine .map ?_)|(refine gI ?_;(refine gT ?_;refine iA ?_)))<;>conv=>whnf)
    refine ⟨j+1,⟨⟨hj,q2⟩,by omega⟩,?_⟩
    exact au
   |false=>
    rw [hr] at hs;rw [hr,Bool.false_and] at q2;rw [←q2,Bool.false_and,if_neg Bool.false_ne_true] at h;cases h
    conv=>whnf
    repeat' ((first|(refine gF ?_;refine ab.fn (hs) ?_)|(refine gC ?_;first|refine cN ?_|refine .not ?_|(refine gD ?_;refine cI ?_))|(refine gL ?_;refine .map ?_)|(refine gI ?_;(refine gT ?_;refine iA ?_))|refine af.nrm ?_)<;>conv=>whnf)
    all_goals rfl
  ·obtain rfl:j=a.length:=by omega
   rw [List.drop_length,List.all_nil] at q2;rw [←q2,Bool.true_and] at h
   conv=>whnf
   repeat' ((first|(refine gC ?_;(refine gD ?_;refine cJ ?_))|(refine gL ?_;refine .map ?_))<;>conv=>whnf)
   refine aw.by (fb:=true) (fun _ (j:Nat)=>⟨[(0,.sl .no (a.map Tm.av)),(1,.sl .no (b.map Tm.av)),(7,.int .i64 (j:Int))],[],0⟩) (fun j=>j≤b.length∧(b.drop j).all Tm.right=b.all Tm.right) (fun j=>b.length-j) 0 ⟨Nat.zero_le _,rfl⟩ ?_ ?_
   ·exact au
   ·rintro j ⟨q3,q4⟩
    by_cases hj:j<b.length
    ·obtain ⟨x,hx⟩:∃x,b[j]?=some x:=⟨_,List.getElem?_eq_getElem hj⟩;have hxn:=bI b hx;have hs:=j6 x (by omega)
     rw [List.drop_eq_getElem_cons hj,(List.getElem?_eq_some_iff.1 hx).2,List.all_cons] at q4
     cases hr:x.right with
     |true=>
      rw [hr] at hs;rw [hr,Bool.true_and] at q4
      conv=>whnf
      repeat' ((first|(refine gF ?_;refine ab.fn (hs) ?_)|(refine gC ?_;first|refine cY ?_|refine .not ?_|(refine gD ?_;refine cI ?_))|(refine gW ?_;refine wI ?_)|(refine gL ?_;refine .map ?_)|(refine gI ?_;(refine gT ?_;refine iA ?_)))<;>conv=>whnf)
      refine ⟨j+1,⟨⟨hj,q4⟩,by omega⟩,?_⟩
      exact au
     |false=>
      rw [hr] at hs;rw [hr,Bool.false_and] at q4;rw [←q4,if_neg Bool.false_ne_true] at h;cases h
      conv=>whnf
      repeat' ((first|(refine gF ?_;refine ab.fn (hs) ?_)|(refine gC ?_;first|refine cN ?_|refine .not ?_|(refine gD ?_;refine cI ?_))|(refine gL ?_;refine .map ?_)|(refine gI ?_;(refine gT ?_;refine iA ?_))|refine af.nrm ?_)<;>conv=>whnf)
      all_goals rfl
    ·obtain rfl:j=b.length:=by omega
     rw [List.drop_length,List.all_nil] at q4;rw [←q4,if_pos rfl] at h
     by_cases hl:a.length=b.length
     ·rw [if_pos hl] at h;have hl2:(a.length:Int)=(b.length:Int):=by omega
      have hsv:=Ik (f:=fR) (by unfold B4;exact h) hl (fun x hx=>cU (List.all_eq_true.1 q2.symm x hx)) (fun x hx=>cU (List.all_eq_true.1 q4.symm x hx)) hN (by decide)
      conv=>whnf
      repeat' ((first|(refine gF ?_;refine ab.fn (hsv) ?_)|(refine gC ?_;first|refine .not ?_|(refine gD ?_;first|refine cI ?_|refine cJ ?_))|(refine gL ?_;refine .map ?_)|refine af.nrm ?_)<;>conv=>whnf)
      all_goals rfl
     ·rw [if_neg hl] at h;cases h;have hl2:¬(a.length:Int)=(b.length:Int):=by omega
      conv=>whnf
      repeat' ((first|(refine gC ?_;first|refine .not ?_|(refine gD ?_;refine cJ ?_))|(refine gL ?_;refine .map ?_)|refine af.nrm ?_)<;>conv=>whnf)
      all_goals rfl
end Go.CK
namespace Go.CK
open Go.AM Go.Proofs
variable {vals:List AV} {bs:List Box} {Q:AV->List Box->Prop}
def wj:RC:=
 (.seq
 (rR [1] [
 oQ 1 (.box (.t 0)),oQ 2 (.mov (.c (.int .i64 0))),oQ 3 (.mov (.c (.int .i64 0)))])
 (.seq
 (.block 0
 (.seq
 (rR [1,8] [
 qF 9 0 1,qL 10 9,oQ 11 (.bin .eql (.t 10) (.c (.int .i64 1))),qM 8 11])
 (.cond (.t 8)
 (.seq
 (rR [2,3] [
 oQ 2 (.mov (.c (.int .i64 0))),oQ 3 (.mov (.c (.int .i64 17)))])
 .ret)
 (.seq
 (rR [1,12] [
 qF 13 0 1,qL 14 13,oQ 15 (.bin .eql (.t 14) (.c (.int .i64 0))),qM 16 15,oG 17 16 true (.aT 1 (.t 1)),oG 18 16 true (.load false 1 (.t 17)),oG 19 16 true (.aG 1 [(.t 18)]),oG 20 16 true (cF 89 [(.t 19)]),oQ 21 (.pick (.t 16) (.t 20) (.c (.bool false))),qM 12 21])
 (.cond (.t 12)
 (.seq
 (rR [2,3] [
 qF 22 1 1,qL 23 22,qM 2 23,oQ 3 (.mov (.c (.int .i64 0)))])
 .ret)
 (.seq
 (rR [1,24] [
 qF 25 0 1,qL 26 25,oQ 27 (.bin .eql (.t 26) (.c (.int .i64 0))),qM 24 27])
 (.cond (.t 24)
 (.seq
 (rR [2,3] [
 oQ 2 (.mov (.c (.int .i64 0))),oQ 3 (.mov (.c (.int .i64 5)))])
 .ret)
 (.seq
 (rR [1,28] [
 qA 29 4 1,oQ 30 (cF 90 [(.t 29)]),oQ 31 (.un .not (.t 30)),qM 28 31])
 (.cond (.t 28)
 (.seq
 (rR [2,3] [
 oQ 2 (.mov (.c (.int .i64 0))),oQ 3 (.mov (.c (.int .i64 11)))])
 .ret)
 .skip)))))))))
 (.seq
 (rR [1,4] [
 oQ 4 (.box (.c (.agg [(.int .i64 0),(.int .i64 0)])))])
 (.seq
 (.seq
 (rR [1,4,32] [
 oQ 32 (.mov (.c (.int .i64 0)))])
 (.block 1
 (.loop
 (.seq
 (rR [1,4,32,33] [
 oQ 33 (.bin .lss (.t 32) (.c (.int .i64 2)))])
 (.seq
 (.cond (.t 33)
 .skip
 (.exit 1))
 (.seq
 (.block 2
 (.seq
 (rR [1,4,5,32] [
 qM 34 32,qM 5 34])
 (.seq
 (rR [1,4,5,6,7,32] [
 qF 36 3 1,qL 37 36,qM 38 5,qI 39 4 37 38,qA 40 4 39,oQ 41 (cF 49 [(.t 40)]),qM 35 41,oQ 42 (.ext 0 (.t 35)),oQ 43 (.ext 1 (.t 35)),qM 6 42,qM 7 43])
 (.seq
 (.seq
 (rR [1,4,5,6,7,32,45] [
 qM 44 7,oQ 45 (.bin .neq (.t 44) (.c (.int .i64 0)))])
 (.cond (.t 45)
 (.seq
 (rR [2,3] [
 qM 46 7,oQ 2 (.mov (.c (.int .i64 0))),qM 3 46])
 .ret)
 .skip))
 (rR [1,4,32] [
 qM 47 5,qM 48 6,oQ 49 (.ql 2 1 (.t 4) (.t 47)),oN (.store 1 (.t 49) (.t 48))])))))
 (rR [1,4,32] [
 oQ 50 (.bin .add (.t 32) (.c (.int .i64 1))),qM 32 50])))))))
 (.seq
 (rR [2,3] [
 qF 51 2 1,qL 52 51,oQ 53 (.ql 2 1 (.t 4) (.c (.int .i64 0))),qL 54 53,oQ 55 (.ql 2 1 (.t 4) (.c (.int .i64 1))),qL 56 55,oQ 57 (cF 91 [(.t 52),(.t 54),(.t 56)]),oQ 58 (.ext 0 (.t 57)),oQ 59 (.ext 1 (.t 57)),qM 2 58,qM 3 59])
 .ret)))))
theorem dy (hn:vals.length≤60) (h:SP Tryz.prog true vals bs wj [.slot 2,.slot 3] Q):AM.Sem Tryz.prog 49 vals bs Q:=
 oZ (keeps:=[(0,[1]),(1,[1,8]),(3,[1,12]),(5,[1,24]),(7,[1,28]),(8,[2,3]),(6,[2,3]),(4,[2,3]),(2,[2,3]),(9,[1,4]),(10,[1,4,32]),(11,[1,4,32,33]),(12,[1,4,5,32]),(13,[1,4,5,6,7,32]),(14,[1,4,5,6,7,32,45]),(15,[2,3]),(16,[1,4,32]),(17,[1,4,32]),(18,[2,3])]) (solo:=[]) Tryz.func49 rfl hn h
def pQ:RC:=
 (.seq
 (rR [1] [
 oQ 1 (.box (.t 0)),oQ 2 (.mov (.c (.bool false)))])
 (.seq
 (rR [2] [
 qF 3 0 1,qL 4 3,oQ 5 (.bin .eql (.t 4) (.c (.int .i64 2))),qM 6 5,oG 7 6 true (.aT 3 (.t 1)),oG 8 6 true (.load false 1 (.t 7)),oG 9 6 true (.len false (.t 8)),oG 10 6 true (.bin .eql (.t 9) (.c (.int .i64 2))),oQ 11 (.pick (.t 6) (.t 10) (.c (.bool false))),qM 12 11,oG 13 12 true (.aT 2 (.t 1)),oG 14 12 true (.load false 1 (.t 13)),oG 15 12 true (cF 128 [(.t 14)]),oG 16 12 true (.more (.eqF true) [(.t 15),(.c .nfn)]),oQ 17 (.pick (.t 12) (.t 16) (.c (.bool false))),qM 2 17])
 .ret))
theorem a6 (hn:vals.length≤18) (h:SP Tryz.prog true vals bs pQ [.slot 2] Q):AM.Sem Tryz.prog 90 vals bs Q:=
 oZ (keeps:=[(0,[1]),(1,[2])]) (solo:=[]) Tryz.func90 rfl hn h
def z6:RC:=
 (.seq
 (rR [0] [
 oQ 2 (.mov (.c .nfn))])
 (.seq
 (.seq
 (rR [3] [
 qM 3 0])
 (.block 0
 (.seq
 (rR [3,4] [
 oQ 5 (.bin .eql (.t 3) (.c (.str ⟨⟨[43]⟩⟩))),qM 4 5])
 (.cond (.t 4)
 (.seq
 (rR [2] [
 oQ 2 (.mov (.c (.fn (.func 159) [] [])))])
 .ret)
 (.seq
 (rR [3,6] [
 oQ 7 (.bin .eql (.t 3) (.c (.str ⟨⟨[45]⟩⟩))),qM 6 7])
 (.cond (.t 6)
 (.seq
 (rR [2] [
 oQ 2 (.mov (.c (.fn (.func 160) [] [])))])
 .ret)
 (.seq
 (rR [3,8] [
 oQ 9 (.bin .eql (.t 3) (.c (.str ⟨⟨[42]⟩⟩))),qM 8 9])
 (.cond (.t 8)
 (.seq
 (rR [2] [
 oQ 2 (.mov (.c (.fn (.func 161) [] [])))])
 .ret)
 (.seq
 (rR [3,10] [
 oQ 11 (.bin .eql (.t 3) (.c (.str ⟨⟨[47]⟩⟩))),qM 10 11])
 (.cond (.t 10)
 (.seq
 (rR [2] [
 oQ 12 (cF 162 [(.c (.fn (.func 163) [] []))]),qM 2 12])
 .ret)
 (.seq
 (rR [13] [
 oQ 14 (.bin .eql (.t 3) (.c (.str ⟨⟨[37]⟩⟩))),qM 13 14])
 (.cond (.t 13)
 (.seq
 (rR [2] [
 oQ 15 (cF 162 [(.c (.fn (.func 164) [] []))]),qM 2 15])
 .ret)
 .skip))))))))))))
 (.seq
 (rR [2] [
 oQ 2 (.mov (.c .nfn))])
 .ret)))
theorem cu (hn:vals.length≤16) (h:SP Tryz.prog true vals bs z6 [.slot 2] Q):AM.Sem Tryz.prog 128 vals bs Q:=
 oZ (keeps:=[(0,[0]),(1,[3]),(2,[3,4]),(4,[3,6]),(6,[3,8]),(8,[3,10]),(10,[13]),(11,[2]),(9,[2]),(7,[2]),(5,[2]),(3,[2]),(12,[2])]) (solo:=[]) Tryz.func128 rfl hn h
def qP:RC:=
 (.seq
 (rR [0] [
 oQ 2 (.mov (.c (.bool false)))])
 (.seq
 (.seq
 (rR [5,6,7] [
 qM 5 0,oQ 6 (.len false (.t 5)),oQ 7 (.mov (.c (.int .i64 0)))])
 (.block 0
 (.loop
 (.seq
 (rR [5,6,7,8] [
 oQ 8 (.bin .lss (.t 7) (.t 6))])
 (.seq
 (.cond (.t 8)
 .skip
 (.exit 0))
 (.seq
 (.block 1
 (.seq
 (rR [4,5,6,7] [
 qI 9 1 5 7,qL 10 9,qM 4 10])
 (.seq
 (rR [5,6,7,16] [
 qM 11 4,oQ 12 (.bin .lss (.t 11) (.c (.int .i64 (-2147483648)))),qM 13 12,oG 14 13 false (.mov (.t 4)),oG 15 13 false (.bin .gtr (.t 14) (.c (.int .i64 2147483648))),oQ 16 (.pick (.t 13) (.c (.bool true)) (.t 15))])
 (.cond (.t 16)
 (.seq
 (rR [2] [
 oQ 2 (.mov (.c (.bool false)))])
 .ret)
 .skip))))
 (rR [5,6,7] [
 oQ 17 (.bin .add (.t 7) (.c (.int .i64 1))),qM 7 17])))))))
 (.seq
 (rR [2] [
 oQ 2 (.mov (.c (.bool true)))])
 .ret)))
theorem qX (hn:vals.length≤18) (h:SP Tryz.prog true vals bs qP [.slot 2] Q):AM.Sem Tryz.prog 89 vals bs Q:=
 oZ (keeps:=[(0,[0]),(1,[5,6,7]),(2,[5,6,7,8]),(3,[4,5,6,7]),(4,[5,6,7,16]),(5,[2]),(6,[5,6,7]),(7,[2])]) (solo:=[]) Tryz.func89 rfl hn h
def tI:RC:=
 (.seq
 (rR [0,1,2] [
 oQ 6 (.mov (.c (.int .i64 0))),oQ 7 (.mov (.c (.int .i64 0)))])
 (.seq
 (rR [1,2,8] [
 qM 11 0,oQ 12 (cF 128 [(.t 11)]),qM 8 12])
 (.seq
 (.seq
 (rR [1,2,8,14] [
 qM 13 8,oQ 14 (.more (.eqF false) [(.t 13),(.c .nfn)])])
 (.cond (.t 14)
 (.seq
 (rR [6,7] [
 oQ 6 (.mov (.c (.int .i64 0))),oQ 7 (.mov (.c (.int .i64 7)))])
 .ret)
 .skip))
 (.seq
 (.seq
 (rR [1,2,8,19] [
 qM 15 1,qM 16 2,oQ 17 (.aG 1 [(.t 15),(.t 16)]),oQ 18 (cF 89 [(.t 17)]),oQ 19 (.un .not (.t 18))])
 (.cond (.t 19)
 (.seq
 (rR [6,7] [
 oQ 6 (.mov (.c (.int .i64 0))),oQ 7 (.mov (.c (.int .i64 5)))])
 .ret)
 .skip))
 (.seq
 (rR [9,10] [
 qM 21 8,qM 22 1,qM 23 2,oQ 24 (.dD (.t 21) [(.t 22),(.t 23)]),qM 20 24,oQ 25 (.ext 0 (.t 20)),oQ 26 (.ext 1 (.t 20)),qM 9 25,qM 10 26])
 (.seq
 (.seq
 (rR [9,10,34] [
 qM 27 10,oQ 28 (.bin .eql (.t 27) (.c (.int .i64 0))),qM 29 28,oG 30 29 true (.mov (.t 9)),oG 31 29 true (.aG 1 [(.t 30)]),oG 32 29 true (cF 89 [(.t 31)]),oG 33 29 true (.un .not (.t 32)),oQ 34 (.pick (.t 29) (.t 33) (.c (.bool false)))])
 (.cond (.t 34)
 (rR [9,10] [
 oQ 10 (.mov (.c (.int .i64 5)))])
 .skip))
 (.seq
 (.seq
 (rR [9,10,36] [
 qM 35 10,oQ 36 (.bin .neq (.t 35) (.c (.int .i64 0)))])
 (.cond (.t 36)
 (.seq
 (rR [6,7] [
 qM 37 10,oQ 6 (.mov (.c (.int .i64 0))),qM 7 37])
 .ret)
 .skip))
 (.seq
 (rR [6,7] [
 qM 38 9,qM 6 38,oQ 7 (.mov (.c (.int .i64 0)))])
 .ret))))))))
theorem ay (hn:vals.length≤39) (h:SP Tryz.prog true vals bs tI [.slot 6,.slot 7] Q):AM.Sem Tryz.prog 91 vals bs Q:=
 oZ (keeps:=[(0,[0,1,2]),(1,[1,2,8]),(2,[1,2,8,14]),(3,[6,7]),(4,[1,2,8,19]),(5,[6,7]),(6,[9,10]),(7,[9,10,34]),(8,[9,10]),(9,[9,10,36]),(10,[6,7]),(11,[6,7])]) (solo:=[]) Tryz.func91 rfl hn h
def qQ:RC:=
 (.seq
 (rR [1] [
 oQ 1 (.box (.t 0)),oQ 2 (.mov (.c .nfn))])
 (.seq
 (rR [2] [
 oQ 3 (.ug (.func 175) [] [(.t 1)]),qM 2 3])
 .ret))
theorem dh (hn:vals.length≤4) (h:SP Tryz.prog true vals bs qQ [.slot 2] Q):AM.Sem Tryz.prog 162 vals bs Q:=
 oZ (keeps:=[(0,[1]),(1,[2])]) (solo:=[]) Tryz.func162 rfl hn h
def pO:RC:=
 (.seq
 (rR [0,1] [
 oQ 4 (.mov (.c (.int .i64 0)))])
 (.seq
 (rR [0,1,5] [
 qM 6 0,qM 7 1,oQ 8 (.bin .quo (.t 6) (.t 7)),qM 5 8])
 (.seq
 (.seq
 (rR [5,19] [
 qM 9 0,qM 10 1,oQ 11 (.bin .rem (.t 9) (.t 10)),oQ 12 (.bin .neq (.t 11) (.c (.int .i64 0))),qM 13 12,oG 14 13 true (.mov (.t 0)),oG 15 13 true (.bin .lss (.t 14) (.c (.int .i64 0))),oG 16 13 true (.mov (.t 1)),oG 17 13 true (.bin .lss (.t 16) (.c (.int .i64 0))),oG 18 13 true (.more (.eqB true) [(.t 15),(.t 17)]),oQ 19 (.pick (.t 13) (.t 18) (.c (.bool false)))])
 (.cond (.t 19)
 (rR [5] [
 qM 20 5,oQ 21 (.bin .sub (.t 20) (.c (.int .i64 1))),qM 5 21])
 .skip))
 (.seq
 (rR [4] [
 qM 22 5,qM 4 22])
 .ret))))
theorem pY (hn:vals.length≤23) (h:SP Tryz.prog true vals bs pO [.slot 4] Q):AM.Sem Tryz.prog 163 vals bs Q:=
 oZ (keeps:=[(0,[0,1]),(1,[0,1,5]),(2,[5,19]),(3,[5]),(4,[4])]) (solo:=[]) Tryz.func163 rfl hn h
def wi:RC:=
 (.seq
 (rR [0,1] [
 oQ 4 (.mov (.c (.int .i64 0))),oQ 5 (.mov (.c (.int .i64 0)))])
 (.seq
 (rR [4,5] [
 qM 6 0,qM 7 1,oQ 8 (.bin .add (.t 6) (.t 7)),qM 4 8,oQ 5 (.mov (.c (.int .i64 0)))])
 .ret))
theorem wy (hn:vals.length≤9) (h:SP Tryz.prog true vals bs wi [.slot 4,.slot 5] Q):AM.Sem Tryz.prog 159 vals bs Q:=
 oZ (keeps:=[(0,[0,1]),(1,[4,5])]) (solo:=[]) Tryz.func159 rfl hn h
def wh:RC:=
 (.seq
 (rR [0,1] [
 oQ 4 (.mov (.c (.int .i64 0))),oQ 5 (.mov (.c (.int .i64 0)))])
 (.seq
 (rR [4,5] [
 qM 6 0,qM 7 1,oQ 8 (.bin .sub (.t 6) (.t 7)),qM 4 8,oQ 5 (.mov (.c (.int .i64 0)))])
 .ret))
theorem wx (hn:vals.length≤9) (h:SP Tryz.prog true vals bs wh [.slot 4,.slot 5] Q):AM.Sem Tryz.prog 160 vals bs Q:=
 oZ (keeps:=[(0,[0,1]),(1,[4,5])]) (solo:=[]) Tryz.func160 rfl hn h
def wg:RC:=
 (.seq
 (rR [0,1] [
 oQ 4 (.mov (.c (.int .i64 0))),oQ 5 (.mov (.c (.int .i64 0)))])
 (.seq
 (rR [4,5] [
 qM 6 0,qM 7 1,oQ 8 (.bin .mul (.t 6) (.t 7)),qM 4 8,oQ 5 (.mov (.c (.int .i64 0)))])
 .ret))
theorem wv (hn:vals.length≤9) (h:SP Tryz.prog true vals bs wg [.slot 4,.slot 5] Q):AM.Sem Tryz.prog 161 vals bs Q:=
 oZ (keeps:=[(0,[0,1]),(1,[4,5])]) (solo:=[]) Tryz.func161 rfl hn h
def we:RC:=
 (.seq
 (rR [0,1] [
 oQ 4 (.mov (.c (.int .i64 0)))])
 (.seq
 (rR [4] [
 qM 5 0,qM 6 0,qM 7 1,oQ 8 (cF 163 [(.t 6),(.t 7)]),qM 9 1,oQ 10 (.bin .mul (.t 8) (.t 9)),oQ 11 (.bin .sub (.t 5) (.t 10)),qM 4 11])
 .ret))
theorem wu (hn:vals.length≤12) (h:SP Tryz.prog true vals bs we [.slot 4] Q):AM.Sem Tryz.prog 164 vals bs Q:=
 oZ (keeps:=[(0,[0,1]),(1,[4])]) (solo:=[]) Tryz.func164 rfl hn h
def oX:RC:=
 (.seq
 (rR [0,1,2] [
 oQ 5 (.mov (.c (.int .i64 0))),oQ 6 (.mov (.c (.int .i64 0)))])
 (.seq
 (.seq
 (rR [0,1,2,8] [
 qM 7 1,oQ 8 (.bin .eql (.t 7) (.c (.int .i64 0)))])
 (.cond (.t 8)
 (.seq
 (rR [5,6] [
 oQ 5 (.mov (.c (.int .i64 0))),oQ 6 (.mov (.c (.int .i64 12)))])
 .ret)
 .skip))
 (.seq
 (rR [5,6] [
 qL 9 2,qM 10 0,qM 11 1,oQ 12 (.dD (.t 9) [(.t 10),(.t 11)]),qM 5 12,oQ 6 (.mov (.c (.int .i64 0)))])
 .ret)))
theorem cy (hn:vals.length≤13) (h:SP Tryz.prog true vals bs oX [.slot 5,.slot 6] Q):AM.Sem Tryz.prog 175 vals bs Q:=
 oZ (keeps:=[(0,[0,1,2]),(1,[0,1,2,8]),(2,[5,6]),(3,[5,6])]) (solo:=[]) Tryz.func175 rfl hn h
end Go.CK
