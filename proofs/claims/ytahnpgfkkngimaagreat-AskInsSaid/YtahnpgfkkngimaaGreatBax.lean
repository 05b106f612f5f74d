/-
  Texts of this aQ joined (wip/gen/bundle.py),those declarations only that are needed:UnA UnB UnC UnD. By an AI agent.
-/
import Derived.Test.YtahnpgfkkngimaaGreatBaw
set_option linter.unusedSimpArgs false
set_option linter.unusedVariables false
set_option maxRecDepth 100000
namespace Go.CK
open Go.AM Go.Proofs
structure Nd where
 t:Tm
 kids:List Nat
def Nd.av(x:Nd):AV:=.agg [.int .i64 x.t.kind,.int .i64 x.t.num,.str x.t.name,.sl .no (x.t.args.map Tm.av),.sl .no (x.kids.map bG)]
def uE(n:Int):AV:=.int .i64 n
def msA(m:Int×Int):AV:=.agg [.int .i64 m.1,.int .i64 m.2]
structure Gr where
 nodes:List Nd
 vars:List (Int×Nat)
 up:List Nat
 shape:List (Int×Nat)
 least:List (Int×Int)
 known:List (Int×(Int×Int))
def Gr.bs(g:Gr)(cap:Nat):List Box:=[.cells [.sl (.own 5) (g.nodes.map Nd.av),.mpt 1,.bsl 5 g.up.length cap,.mpt 2,.mpt 3,.mpt 4],.mp (mpE bG g.vars),.mp (mpE bG g.shape),.mp (mpE uE g.least),.mp (mpE msA g.known),aL bG 1 cap g.up]
def ct:Nat->List Nat->Nat->Option (List Nat×Nat)
 |0,_,_=>none
 |f+1,up,k=>match up[k]? with
  |none=>none
  |some p=>if p=k then some (up,k) else match up[p]? with
   |none=>none
   |some q=>ct f (up.set k q) q
theorem nX{g:Gr}{k k' cap f:Nat}{up':List Nat}(h:ct f g.up k=some (up',k'))(hcap:g.up.length<=cap):AM.Sem Tryz.prog 144 [.ptr 0 0,.int .i64 (k:Int)] (g.bs cap) λr bs'=>r=.int .i64 (k':Int)/\bs'=({g with up:=up'}:Gr).bs cap:=by
 refine mv (by simp) ?_
 conv=>whnf
 skip;refine aw.by (fb:=true) (λ_ (q:Nat×List Nat×Nat)=>⟨[(0,.ptr 0 0),(1,.int .i64 (q.2.2:Int))],({g with up:=q.2.1}:Gr).bs cap,6⟩) (λq=>ct q.1 q.2.1 q.2.2=some (up',k')/\q.2.1.length=g.up.length) (λq=>q.1) (f,g.up,k) ⟨h,rfl⟩ ?_ ?_
 .exact au
 .rintro ⟨f,up,k⟩ ⟨h1,h2⟩;dsimp only at h1 h2|-
  cases f with
  |zero=>cases h1
  |succ f=>
   simp only[ct] at h1
   cases hp:up[k]? with
   |none=>rw[hp] at h1;cases h1
   |some p=>
    rw[hp] at h1;have hk:k<up.length:=(ZB.1 hp).1;simp only at h1
    by_cases hpk:p=k
    .rw [if_pos hpk] at h1;cases h1
     conv=>whnf
     repeat' (first|(refine gC ?_;first|refine .not ?_|refine gD (cI ?_))|refine gN (nS ?_)|(refine gE ?_;refine eLn ?_)|refine af.nrm ?_)<;>conv=>whnf
     exact⟨rfl,rfl⟩
    .rw [if_neg hpk] at h1
     cases hq:up[p]? with
     |none=>rw[hq] at h1;cases h1
     |some q=>
      rw[hq] at h1;have hp2:p<up.length:=(ZB.1 hq).1;have hset:(up.set k q)[k]? =some q:=by simp[hk]
      have hlen:(up.set k q).length=up.length:=Zm
      conv=>whnf
      repeat' (first|(refine gC ?_;first|refine .not ?_|refine gD (cJ ?_))|refine gN (nS ?_)|(refine gE ?_;refine eLn ?_)|refine gS (eSn ?_))<;>conv=>whnf
      refine⟨(f,up.set k q,q),⟨⟨h1,hlen.trans h2⟩,XB _⟩,?_⟩;refine ah.at_ ?_ rfl
      conv=>whnf
      refine And.intro ?_ ?_<;>conv=>whnf
      all_goals repeat' (first|refine gV (vE ?_)|(refine gX ?_;first|refine xB ?_|(refine BxN.mk ?_ ?_;(focus (simp[AV.norm,AV.aD,];done))))|exact True.intro)<;>conv=>whnf
def dq(a b:Tm):Bool:=decide (a.kind=b.kind)&&(decide (a.num=b.num)&&(decide (a.name=b.name)&&decide (a.args.length=b.args.length)))
theorem HU{g:Gr}{i k cap:Nat}{x y:Nd}(hx:g.nodes[i]? =some x)(hy:g.nodes[k]? =some y):AM.Sem Tryz.prog 145 [.ptr 0 0,.int .i64 (i:Int),.int .i64 (k:Int)] (g.bs cap) λr bs'=>r=.bool (dq x.t y.t)/\bs'=g.bs cap:=by
 refine lI (by simp) ?_
 conv=>whnf
 repeat' (first|(refine gC ?_;first|refine cN ?_|(refine gD ?_;first|refine cI ?_|refine cJ ?_)|refine aq.dec (λhc=>?_) (λhc=>?_))|refine gL (.map ?_)|refine gI (gM (iE ?_))|refine yc.mk ?_ ?_)<;>conv=>whnf
 all_goals (refine af.lay [some 0,some 1,some 2,some 3,some 4,some 5] oko ?_;conv=>whnf)
 conv=>whnf
 repeat' refine af.nrm ?_<;>conv=>whnf
 all_goals (refine⟨?_,rfl⟩;simp[dq, *])
 all_goals omega
def aK(g:Gr)(a b:Nat):Gr:=
 {g with
  up:=g.up.set b a
  shape:=match lk g.shape b with
   |none=>g.shape
   |some k=>match lk g.shape a with
    |none=>pt g.shape a k
    |some _=>g.shape
  least:=match lk g.least b with
   |none=>g.least
   |some v=>match lk g.least a with
    |none=>pt g.least a v
    |some w=>if v<w then pt g.least a v else g.least}
theorem p9{g:Gr}{a b cap:Nat}(hb:b<g.up.length)(hcap:g.up.length<=cap):AM.Sem Tryz.prog 146 [.ptr 0 0,.int .i64 (a:Int),.int .i64 (b:Int)] (g.bs cap) λr bs'=>r=.tup []/\bs'=(aK g a b).bs cap:=by
 obtain⟨p,hp⟩:∃p,g.up[b]? =some p:=⟨_,ZA hb⟩;refine lH (by simp) ?_
 conv=>whnf
 repeat' (first|(refine gC ?_;first|refine cY ?_|refine cN ?_|refine .not ?_|refine aq.lt (λhc=>?_) (λhc=>?_))|refine gN (nS ?_)|refine gS (eSn ?_)|refine gMp (mA ?_)|(refine gMs ?_;refine mE (λv hc=>?_) (λhc=>?_))|refine af.nrm ?_)<;>conv=>whnf
 all_goals refine⟨rfl,?_⟩
 all_goals (conv=>rhs;simp only[aK,Gr.bs, *,Zm,if_true,if_false])
 all_goals (first|rfl|(conv=>rhs;simp only[<-kQ]);rfl|(rw[if_neg (by omega)];rfl)|(rw[if_neg (by omega)];conv=>rhs;simp only[<-kQ]);rfl)
end Go.CK
namespace Go.CK
open Go.AM Go.Proofs
def xf(p:Nat×Nat):AV:=.agg [.int .i64 (p.1:Int),.int .i64 (p.2:Int)]
theorem ff:Plain xf 2:=⟨by omega,λ_=>rfl,λx c h=>by simp[xf,AV.cells] at h;rcases h with rfl|rfl<;>rfl,λx c h=>by simp[xf,AV.cells] at h;rcases h with rfl|rfl<;>rfl⟩
def dQ(N:Nat):Nat->Gr->List (Nat×Nat)->Option (Gr×Bool)
 |0,_,_=>none
 |f+1,g,ps=>match ps.getLast? with
  |none=>some (g,true)
  |some (x,y)=>match ct N g.up x with
   |none=>none
   |some (u1,a)=>match ct N u1 y with
    |none=>none
    |some (u2,b)=>
     if a=b then dQ N f {g with up:=u2} ps.dropLast
     else match lk g.shape a,lk g.shape b with
      |some i,some k=>match g.nodes[i]?,g.nodes[k]? with
       |some p,some q=>
        if dq p.t q.t=true then
         if p.kids.length<=q.kids.length/\b<u2.length/\ps.length+p.kids.length<=4000000000 then dQ N f (aK {g with up:=u2} a b) (ps.dropLast++p.kids.zip q.kids) else none
        else some ({g with up:=u2},false)
       |_,_=>none
      |_,_=>if b<u2.length then dQ N f (aK {g with up:=u2} a b) ps.dropLast else none
theorem dc{N:Nat}:∀{up:List Nat} {k:Nat} {u:List Nat} {r:Nat},ct N up k=some (u,r)->u.length=up.length:=by
 induction N with
 |zero=>intro up k u r h;cases h
 |succ N ih=>
  intro up k u r h;simp only[ct] at h;split at h
  .cases h
  .split at h
   .cases h;rfl
   .split at h
    .cases h
    .rw [ih h,Zm]
theorem I0{N f cap capp m:Nat}{g g':Gr}{ps:List (Nat×Nat)}{b:Bool}(h:dQ N f g ps=some (g',b))(hcap:g.up.length<=cap)(hm:m=ps.length)(hmc:m<=capp)(hps:ps.length<=4000000000):AM.Sem Tryz.prog 113 [.ptr 0 0,.bsl 6 m capp] (g.bs cap++[aL xf 2 capp ps]) λr bs'=>r=.bool b/\bs'=g'.bs cap++[.dead]:=by
 subst hm;refine mw (by simp) ?_
 conv=>whnf
 skip;refine aw.by (fb:=true) (λ_ (q:Nat×Gr×List (Nat×Nat)×Nat)=>⟨[(0,.ptr 0 0),(1,.bsl 7 q.2.2.1.length q.2.2.2)],q.2.1.bs cap++[.dead,aL xf 2 q.2.2.2 q.2.2.1],7⟩) (λq=>dQ N q.1 q.2.1 q.2.2.1=some (g',b)/\q.2.1.up.length=g.up.length/\q.2.2.1.length<=q.2.2.2/\q.2.2.1.length<=4000000000) (λq=>q.1) (f,g,ps,capp) ⟨h,rfl,hmc,hps⟩ ?_ ?_
 .refine ah.lay [some 0,some 1,some 2,some 3,some 4,some 5,none,some 6] oko ?_
  conv=>whnf
  exact au
 .rintro ⟨f,g,ps,capp⟩ ⟨h1,h2,h3,h4⟩;dsimp only at h1 h2 h3 h4|-
  cases f with
  |zero=>cases h1
  |succ f=>
   simp only[dQ] at h1;rcases List.eq_nil_or_concat ps with rfl|⟨ps,⟨x,y⟩,rfl⟩
   .simp only[List.getLast?_nil,ZN,Prod.mk.injEq] at h1;obtain⟨rfl,rfl⟩:=h1
    conv=>whnf
    repeat' refine gC (gD (cJd ?_))<;>conv=>whnf
    refine af.lay [some 0,some 1,some 2,some 3,some 4,some 5,none] oko ?_
    conv=>whnf
    repeat' refine af.nrm ?_<;>conv=>whnf
    exact⟨rfl,rfl⟩
   .rw [List.concat_eq_append] at h1 h3 h4|-;simp only[List.getLast?_concat,List.dropLast_concat,ZC,ZU] at h1 h3 h4
    cases hr1:ct N g.up x with
    |none=>rw[hr1] at h1;cases h1
    |some ua=>
     obtain⟨u1,a⟩:=ua;rw[hr1] at h1;simp only at h1;have hl1:=dc hr1
     cases hr2:ct N u1 y with
     |none=>rw[hr2] at h1;cases h1
     |some ub=>
      obtain⟨u2,b'⟩:=ub;rw[hr2] at h1;simp only at h1;have hl2:=dc hr2;have hlp:(ps++[(x,y)]).length=ps.length+1:=by simp
      have hlast:(ps++[(x,y)])[((((ps++[(x,y)]).length:Nat):Int)-1).toNat]? =some (x,y):=by rw[show ((((ps++[(x,y)]).length:Nat):Int)-1).toNat=ps.length by omega];simp
      conv=>whnf
      repeat' (first|refine gC (gD (cI ?_))|refine gW (wI ?_)|refine gN (nS ?_))<;>conv=>whnf
      refine ElN.cell ff rfl hlast rfl ?_
      conv=>whnf
      repeat' refine gN (nS ?_)<;>conv=>whnf
      refine ElN.cell ff rfl hlast rfl ?_
      conv=>whnf
      skip;refine ab.ate [0,1,2,3,4,5] (nX hr1 (by omega)) rfl rfl ?_
      conv=>whnf
      repeat' refine gPr (pS ?_)<;>conv=>whnf
      refine ab.ate [0,1,2,3,4,5] (nX (g:={g with up:=u1}) hr2 (by show u1.length<=cap;omega)) rfl rfl ?_
      by_cases hab:a=b'
      .rw [if_pos hab] at h1
       conv=>whnf
       repeat' (first|refine gC (gD (cI ?_))|refine gN (nS ?_))<;>conv=>whnf
       refine⟨(f,{g with up:=u2},ps,capp),⟨⟨h1,by show u2.length=_;omega,by show ps.length<=capp;omega,by show ps.length<=4000000000;omega⟩,XB _⟩,?_⟩
       refine ah.oT ff 7 ps.length (l:=ps++[(x,y)]) rfl (by omega) (by omega) ?_
       rw[List.take_left];refine ah.at_ ?_ rfl
       conv=>whnf
       refine And.intro ?_ ?_<;>conv=>whnf
       all_goals repeat' (first|(refine gV ?_;first|refine vE ?_|(refine WkN.norm ?_ ?_;(focus (simp[AV.norm,AV.aD,];done))))|refine gX (xB ?_)|exact True.intro)<;>conv=>whnf
      .rw [if_neg hab] at h1
       have hbl:∀{g2:Gr} {ps2:List (Nat×Nat)} {K:Prop},(if b'<u2.length then dQ N f g2 ps2 else none)=some (g',b)->(b'<u2.length->dQ N f g2 ps2=some (g',b)->K)->K:=λh k=>by
        by_cases hb:b'<u2.length
        .rw [if_pos hb] at h;exact k hb h
        .rw [if_neg hb] at h;cases h
       cases hsa:lk g.shape a with
       |none=>
        rw[hsa] at h1;refine hbl h1 λhb h1=>?_
        conv=>whnf
        repeat' (first|(refine gC ?_;first|refine cN ?_|refine gD (cJ ?_))|refine gN (nS ?_)|refine gMp (mA ?_)|(refine gMs ?_;first|refine mEn ?_|refine mE (λv hc=>?_) (λhc=>?_)))<;>conv=>whnf
        .refine ab.ate [0,1,2,3,4,5] (p9 (g:={g with up:=u2}) hb (by show u2.length<=cap;omega)) rfl rfl ?_
         conv=>whnf
         skip;refine⟨(f,aK {g with up:=u2} a b',ps,capp),⟨⟨h1,by show (u2.set b' a).length=_;rw[Zm];omega,by show ps.length<=capp;omega,by show ps.length<=4000000000;omega⟩,XB _⟩,?_⟩
         refine ah.oT ff 7 ps.length (l:=ps++[(x,y)]) rfl (by omega) (by omega) ?_
         rw[List.take_left];refine ah.at_ ?_ rfl
         conv=>whnf
         refine And.intro ?_ ?_<;>conv=>whnf
         all_goals repeat' (first|(refine gV ?_;first|refine vE ?_|(refine WkN.norm ?_ ?_;(focus (simp[AV.norm,AV.aD,];done))))|refine gX (xB ?_)|exact True.intro)<;>conv=>whnf
        .refine ab.ate [0,1,2,3,4,5] (p9 (g:={g with up:=u2}) hb (by show u2.length<=cap;omega)) rfl rfl ?_
         conv=>whnf
         skip;refine⟨(f,aK {g with up:=u2} a b',ps,capp),⟨⟨h1,by show (u2.set b' a).length=_;rw[Zm];omega,by show ps.length<=capp;omega,by show ps.length<=4000000000;omega⟩,XB _⟩,?_⟩
         refine ah.oT ff 7 ps.length (l:=ps++[(x,y)]) rfl (by omega) (by omega) ?_
         rw[List.take_left];refine ah.at_ ?_ rfl
         conv=>whnf
         refine And.intro ?_ ?_<;>conv=>whnf
         all_goals repeat' (first|(refine gV ?_;first|refine vE ?_|(refine WkN.norm ?_ ?_;(focus (simp[AV.norm,AV.aD,];done))))|refine gX (xB ?_)|exact True.intro)<;>conv=>whnf
       |some i=>
        rw[hsa] at h1
        cases hsb:lk g.shape b' with
        |none=>
         rw[hsb] at h1;refine hbl h1 λhb h1=>?_
         conv=>whnf
         repeat' (first|(refine gC ?_;first|refine cY ?_|refine cN ?_|refine gD (cJ ?_))|refine gN (nS ?_)|refine gMp (mA ?_)|(refine gMs ?_;first|refine mEs ?_|refine mEn ?_))<;>conv=>whnf
         refine ab.ate [0,1,2,3,4,5] (p9 (g:={g with up:=u2}) hb (by show u2.length<=cap;omega)) rfl rfl ?_
         conv=>whnf
         skip;refine⟨(f,aK {g with up:=u2} a b',ps,capp),⟨⟨h1,by show (u2.set b' a).length=_;rw[Zm];omega,by show ps.length<=capp;omega,by show ps.length<=4000000000;omega⟩,XB _⟩,?_⟩
         refine ah.oT ff 7 ps.length (l:=ps++[(x,y)]) rfl (by omega) (by omega) ?_
         rw[List.take_left];refine ah.at_ ?_ rfl
         conv=>whnf
         refine And.intro ?_ ?_<;>conv=>whnf
         all_goals repeat' (first|(refine gV ?_;first|refine vE ?_|(refine WkN.norm ?_ ?_;(focus (simp[AV.norm,AV.aD,];done))))|refine gX (xB ?_)|exact True.intro)<;>conv=>whnf
        |some k=>
         rw[hsb] at h1;simp only at h1
         cases hni:g.nodes[i]? with
         |none=>rw[hni] at h1;cases h1
         |some p=>
          cases hnk:g.nodes[k]? with
          |none=>rw[hni,hnk] at h1;cases h1
          |some o=>
           rw[hni,hnk] at h1;simp only at h1
           conv=>whnf
           repeat' (first|(refine gC ?_;first|refine cY ?_|refine gD (cJ ?_))|refine gN (nS ?_)|refine gMp (mA ?_)|refine gMs (mEs ?_))<;>conv=>whnf
           refine ab.ate [0,1,2,3,4,5] (HU (g:={g with up:=u2}) hni hnk) rfl rfl ?_
           cases hal:dq p.t o.t with
           |false=>
            rw[hal,if_neg YY] at h1;cases h1
            conv=>whnf
            repeat' (refine gC ?_;first|refine cN ?_|refine .not ?_)<;>conv=>whnf
            refine af.lay [some 0,some 1,some 2,some 3,some 4,some 5,none] oko ?_
            conv=>whnf
            repeat' refine af.nrm ?_<;>conv=>whnf
            exact⟨rfl,rfl⟩
           |true=>
            rw[hal,if_pos rfl] at h1
            by_cases hko:p.kids.length<=o.kids.length/\b'<u2.length/\ps.length+1+p.kids.length<=4000000000
            .rw [if_pos hko] at h1;obtain⟨hko,hb,hkl⟩:=hko;obtain⟨kz,hkz⟩:∃kz,kz=p.kids.zip o.kids:=⟨_,rfl⟩;have hkzl:kz.length=p.kids.length:=by rw[hkz,XT];omega
             rw[<-hkz] at h1
             conv=>whnf
             repeat' (first|(refine gC ?_;first|refine cY ?_|refine .not ?_)|refine gL (.map ?_)|refine gI (gM (iE ?_)))<;>conv=>whnf
             refine aw.by (fb:=true) (λ_ (q:Nat×Nat)=>⟨[(0,.ptr 0 0),(1,.bsl 7 (ps++kz.take q.1).length q.2),(6,.int .i64 (a:Int)),(7,.int .i64 (b':Int)),(10,.int .i64 (k:Int)),(74,.sl .no (p.kids.map bG)),(75,.int .i64 (p.kids.length:Int)),(76,.int .i64 (q.1:Int))],({g with up:=u2}:Gr).bs cap++[.dead,aL xf 2 q.2 (ps++kz.take q.1)],7⟩) (λq=>q.1<=p.kids.length/\ps.length+q.1<=q.2) (λq=>p.kids.length-q.1) (0,capp) ⟨ZJ _,by show ps.length+0<=capp;omega⟩ ?_ ?_
             .refine ah.oT ff 7 ps.length (l:=ps++[(x,y)]) rfl (by omega) (by omega) ?_
              rw[List.take_left];simp only[YJ,Zv];refine ah.at_ ?_ rfl
              conv=>whnf
              refine And.intro ?_ ?_<;>conv=>whnf
              all_goals repeat' (first|(refine gV ?_;first|refine vE ?_|refine vI ?_|(refine WkN.norm ?_ ?_;(focus (simp[AV.norm,AV.aD,];done))))|refine gX (xB ?_)|exact True.intro)<;>conv=>whnf
             .rintro ⟨j,cq⟩ ⟨q1,q2⟩;dsimp only at q1 q2|-;have hln:(ps++kz.take j).length=ps.length+j:=by rw[ZC,Zn];omega
              by_cases hj:j<p.kids.length
              .obtain ⟨w1,hw1⟩:∃w,p.kids[j]? =some w:=⟨_,ZA hj⟩;obtain⟨w2,hw2⟩:∃w,o.kids[j]? =some w:=⟨_,ZA (by omega)⟩
               have hz:kz[j]? =some (w1,w2):=by rw[hkz];exact YS.2 ⟨hw1,hw2⟩
               have he:ps++kz.take (j+1)=(ps++kz.take j)++[(w1,w2)]:=by rw[Zz,hz,Option.toList_some,Zg]
               conv=>whnf
               repeat' (first|refine gC (gD (cI ?_))|refine gI (gM (iE ?_)))<;>conv=>whnf
               refine lh.one ff (x:=(w1,w2)) rfl rfl (by omega) (by omega) λk' hk'=>?_
               conv=>whnf
               repeat' refine gW (wI ?_)<;>conv=>whnf
               refine⟨(j+1,k'),⟨⟨hj,by rw[ZC,hln] at hk';exact hk'⟩,by show _-(j+1)<_-j;omega⟩,?_⟩
               dsimp only;rw[he];refine ah.lay [some 0,some 1,some 2,some 3,some 4,some 5,none,some 8] oko ?_
               conv=>whnf
               exact au
              .obtain rfl:j=p.kids.length:=by omega
               conv=>whnf
               repeat' refine gC (gD (cJ ?_))<;>conv=>whnf
               refine ab.ate [0,1,2,3,4,5] (p9 (g:={g with up:=u2}) hb (by show u2.length<=cap;omega)) rfl rfl ?_
               conv=>whnf
               skip;rw[Zl (by omega)] at hln|-
               refine⟨(f,aK {g with up:=u2} a b',ps++kz,cq),⟨⟨h1,by show (u2.set b' a).length=_;rw[Zm];omega,by show (ps++kz).length<=cq;omega,by show (ps++kz).length<=4000000000;omega⟩,XB _⟩,?_⟩
               exact au
            .rw [if_neg hko] at h1;cases h1
end Go.CK
namespace Go.CK
open Go.AM Go.Proofs
def bR(g:Gr)(t:Tm)(kids:List Nat):Gr:={g with
 nodes:=g.nodes++[⟨t,kids⟩]
 up:=g.up++[g.nodes.length]
 vars:=if t.kind=1 then pt g.vars t.num g.nodes.length else g.vars
 least:=if t.kind=1 then pt g.least g.nodes.length t.num else g.least
 shape:=if t.kind=1 then g.shape else pt g.shape g.nodes.length g.nodes.length}
mutual
def bC:Gr->Tm->Gr×Nat
 |g,.mk k n s l=>match (if k=1 then lk g.vars n else none) with
  |some i=>(g,i)
  |none=>(bR (bB g l).1 (.mk k n s l) (bB g l).2,(bB g l).1.nodes.length)
def bB:Gr->List Tm->Gr×List Nat
 |g,[]=>(g,[])
 |g,t::r=>((bB (bC g t).1 r).1,(bC g t).2::(bB (bC g t).1 r).2)
end
theorem BO{g:Gr}{t:Tm}{i:Nat}(h1:t.kind=1)(h2:lk g.vars t.num=some i):bC g t=(g,i):=by
 obtain⟨k,n,s,l⟩:=t;simp only[Tm.kind,Tm.num] at h1 h2;rw[bC,if_pos h1,h2]
theorem BP{g:Gr}{t:Tm}(h:t.kind=1->lk g.vars t.num=none):bC g t=(bR (bB g t.args).1 t (bB g t.args).2,(bB g t.args).1.nodes.length):=by
 obtain⟨k,n,s,l⟩:=t;simp only[Tm.kind,Tm.num] at h;rw[bC]
 have:(if k=1 then lk g.vars n else none)=none:=by
  split
  .exact h ‹_›
  .rfl
 rw[this];rfl
theorem x9:∀(g:Gr) (l:List Tm) (t:Tm),bB g (l++[t])=((bC (bB g l).1 t).1,(bB g l).2++[(bC (bB g l).1 t).2])
 |g,[],t=>by simp only[Ym,bB]
 |g,x::l,t=>by simp only[Ze,bB,x9 (bC g x).1 l t]
mutual
theorem lf:∀(g:Gr) (t:Tm),(bC g t).1.nodes.length<=g.nodes.length+t.nodes/\(bC g t).1.up.length<=g.up.length+t.nodes
 |g,.mk k n s l=>by
  have:=nO g l;rw[bC];split
  .dsimp only;omega
  .simp only[bR,ZC,ZU,Tm.nodes];omega
theorem nO:∀(g:Gr) (l:List Tm),(bB g l).1.nodes.length<=g.nodes.length+Tm.ai l/\(bB g l).1.up.length<=g.up.length+Tm.ai l
 |g,[]=>⟨ZG _,ZG _⟩
 |g,t::r=>by
  have h1:=lf g t;have h2:=nO (bC g t).1 r;simp only[bB,Tm.ai];omega
end
mutual
def Tm.Vok:Tm->Prop
 |.mk k _ _ l=>(k=1->l=[])/\Tm.H3 l
def Tm.H3:List Tm->Prop
 |[]=>True
 |t::r=>t.Vok/\Tm.H3 r
end
theorem Tm.BU:∀{l:List Tm} {x:Tm},Tm.H3 l->x∈l->x.Vok
 |y::l,x,h,hm=>by
  simp only[Tm.H3] at h;rcases ZI.1 hm with rfl|hm
  .exact h.1
  .exact Tm.BU h.2 hm
theorem Tm.Vok.args{t:Tm}(h:t.Vok):t.kind=1->t.args=[]:=by
 obtain⟨k,n,s,l⟩:=t;simp only[Tm.Vok] at h;exact h.1
theorem Tm.Vok.kids{t x:Tm}(h:t.Vok)(hx:x∈t.args):x.Vok:=by
 obtain⟨k,n,s,l⟩:=t;simp only[Tm.Vok] at h;exact Tm.BU h.2 hx
def Gr.fresh(g:Gr):Prop:=∀k:Int,(g.nodes.length:Int)<=k->lk g.least k=none
theorem vG{g:Gr}{t:Tm}{l:List Nat}(h:g.fresh):(bR g t l).fresh:=λk hk=>by
 simp only[bR,ZC,ZU] at hk|-;split
 .rw [dC,if_neg (by omega)];exact h k (by omega)
 .exact h k (by omega)
mutual
theorem Dd:∀{g:Gr} (t:Tm),g.fresh->(bC g t).1.fresh
 |g,.mk k n s l,h=>by
  rw[bC];split
  .exact h
  .exact vG (l8 l h)
theorem l8:∀{g:Gr} (l:List Tm),g.fresh->(bB g l).1.fresh
 |g,[],h=>h
 |g,t::r,h=>by simp only[bB];exact l8 r (Dd t h)
end
theorem ya:∀(g:Gr) (l:List Tm),(bB g l).2.length=l.length
 |g,[]=>rfl
 |g,t::r=>by simp only[bB,ZX,ya (bC g t).1 r]
theorem Tm.xn(t:Tm):1<=t.nodes:=by obtain⟨k,n,s,l⟩:=t;simp only[Tm.nodes];omega
theorem bF:∀(l:List Tm),l.length<=Tm.ai l
 |[]=>ZJ _
 |t::r=>by have:=bF r;have:=t.xn;simp only[Tm.ai,ZX];omega
theorem bI:∀(l:List Tm) {j:Nat} {x:Tm},l[j]? =some x->Tm.ai (l.take j)+x.nodes<=Tm.ai l
 |y::l,0,x,h=>by simp at h;subst h;simp only[YJ,Tm.ai];omega
 |y::l,j+1,x,h=>by
  have:=bI l (j:=j) (x:=x) (by simpa using h)
  simp only[XN,Tm.ai];omega
 |[],j,x,h=>by simp at h
def Gr.bs6(g:Gr)(cap:Nat):List Box:=[.cells [.sl (.own 5) (g.nodes.map Nd.av),.mpt 1,.bsl 6 g.up.length cap,.mpt 2,.mpt 3,.mpt 4],.mp (mpE bG g.vars),.mp (mpE bG g.shape),.mp (mpE uE g.least),.mp (mpE msA g.known),.dead,aL bG 1 cap g.up]
def JK(g:Gr)(cap:Nat)(t:Tm)(x y:Box)(kd:AV):List Box:=[.cells [.sl (.own 5) (g.nodes.map Nd.av),.mpt 1,.bsl 8 g.up.length cap,.mpt 2,.mpt 3,.mpt 4],.mp (mpE bG g.vars),.mp (mpE bG g.shape),.mp (mpE uE g.least),.mp (mpE msA g.known),.dead,.cells [.int .i64 t.kind,.int .i64 t.num,.str t.name,.sl .no (t.args.map Tm.av)],.cells [.int .i64 t.kind,.int .i64 t.num,.str t.name,.sl .no (t.args.map Tm.av),kd],x,y]
def BQ(g:Gr)(t:Tm)(j cap kc:Nat):St:=⟨[(0,.ptr 0 0),(3,.ptr 6 0),(7,.ptr 7 0),(29,.sl .no (t.args.map Tm.av)),(30,.int .i64 (t.args.length:Int)),(31,.int .i64 (j:Int))],
 if j<t.args.length then JK (bB g (t.args.take j)).1 cap t (aL bG 1 cap (bB g (t.args.take j)).1.up) (aL bG 1 kc (bB g (t.args.take j)).2) (.bsl 9 (bB g (t.args.take j)).2.length kc)
 else JK (bB g t.args).1 cap t (aL bG 1 cap (bB g t.args).1.up) .dead (.sl .no ((bB g t.args).2.map bG)),6⟩
theorem zn{g:Gr}{t:Tm}{l:List Nat}{k:Nat}(h:t.kind=1)(h1:lk g.vars t.num=none)(h2:lk g.least g.nodes.length=none):(bR g t l).bs6 k=[.cells [.sl (.own 5) (g.nodes.map Nd.av++[Nd.av ⟨t,l⟩]),.mpt 1,.bsl 6 (g.up++[g.nodes.length]).length k,.mpt 2,.mpt 3,.mpt 4],.mp (mpE bG g.vars++[(t.num,bG g.nodes.length)]),.mp (mpE bG g.shape),.mp (mpE uE g.least++[((g.nodes.length:Int),uE t.num)]),.mp (mpE msA g.known),.dead,aL bG 1 k (g.up++[g.nodes.length])]:=by
 rw[DD h1,DD h2];simp only[bR,Gr.bs6,if_pos h,Zt,ZP,Yd]
theorem zo{g:Gr}{t:Tm}{l:List Nat}{k:Nat}(h:¬t.kind=1):(bR g t l).bs6 k=[.cells [.sl (.own 5) (g.nodes.map Nd.av++[Nd.av ⟨t,l⟩]),.mpt 1,.bsl 6 (g.up++[g.nodes.length]).length k,.mpt 2,.mpt 3,.mpt 4],.mp (mpE bG g.vars),.mp (fw (mpE bG g.shape) g.nodes.length (bG g.nodes.length)),.mp (mpE uE g.least),.mp (mpE msA g.known),.dead,aL bG 1 k (g.up++[g.nodes.length])]:=by
 rw[kQ];simp only[bR,Gr.bs6,if_neg h,Zt,ZP,Yd]
def qu(g:Gr)(t:Tm)(r:AV)(bs':List Box):Prop:=r=.int .i64 ((bC g t).2:Int)/\∃cap',(bC g t).1.up.length<=cap'/\bs'=(bC g t).1.bs6 cap'
set_option maxHeartbeats 2000000 in
theorem HX(t:Tm):t.Vok->∀(g:Gr) (cap:Nat),g.fresh->g.up.length<=cap->g.nodes.length+t.nodes<=4000000000->g.up.length+t.nodes<=4000000000->AM.Sem Tryz.prog 114 [.ptr 0 0,t.avw] (g.bs cap) (qu g t):=by
 induction t using Tm.bD with
 |h k n s l ih=>
 intro hv g cap hfr hcap hn hu;generalize ha:Tm.mk k n s l=t at hv hn hu|-;replace ih:∀x∈t.args,x.Vok->∀(g:Gr) (cap:Nat),g.fresh->g.up.length<=cap->g.nodes.length+x.nodes<=4000000000->g.up.length+x.nodes<=4000000000->AM.Sem Tryz.prog 114 [.ptr 0 0,x.avw] (g.bs cap) (qu g x):=by subst ha;exact ih
 have hnl:Tm.ai t.args+1<=t.nodes:=by subst ha;simp only[Tm.nodes,Tm.args];omega
 clear ha;refine mX (by simp) ?_
 conv=>whnf
 repeat' (first|(refine gC ?_;first|refine cY ?_|refine cN ?_|refine aq.dec (λhc=>?_) (λhc=>?_))|refine gL (.map ?_)|refine gMp (mA ?_)|(refine gMs ?_;refine mE (λv hc=>?_) (λhc=>?_)))<;>conv=>whnf
 .refine af.lay [some 0,some 1,some 2,some 3,some 4,none,some 5] oko ?_
  conv=>whnf
  repeat' refine af.nrm ?_<;>conv=>whnf
  rw[BO (by assumption) (by assumption)];exact⟨rfl,cap,hcap,rfl⟩
 all_goals
  have hnew:t.kind=1->lk g.vars t.num=none:=by intro h;first|assumption|contradiction
  rw[show qu g t=λr bs'=>r=.int .i64 ((bB g t.args).1.nodes.length:Int)/\∃cap',(bB g t.args).1.up.length+1<=cap'/\bs'=(bR (bB g t.args).1 t (bB g t.args).2).bs6 cap' by funext r bs';rw[qu,BP hnew];simp only[bR,ZC,ZU]]
  refine aw.by (fb:=true) (λ_ (q:Nat×Nat×Nat)=>BQ g t q.1 q.2.1 q.2.2) (λq=>q.1<=t.args.length/\(bB g (t.args.take q.1)).1.up.length<=q.2.1/\(bB g (t.args.take q.1)).2.length<=q.2.2) (λq=>t.args.length-q.1) (0,cap,0) ⟨ZJ _,by rw[YJ,bB];exact hcap,by rw[YJ,bB];exact ZJ _⟩ ?_ ?_
  .dsimp only;rw[BQ]
   by_cases h0:0<t.args.length
   .rw [if_pos h0,YJ,bB];dsimp only;refine ah.cx (.bx 7 4) rfl rfl ?_
    conv=>whnf
    refine ah.lay [some 0,some 1,some 2,some 3,some 4,none,some 6,some 7,some 5,some 8] oko ?_
    conv=>whnf
    refine ah.at_ ?_ rfl
    conv=>whnf
    refine And.intro ?_ ?_<;>conv=>whnf
    all_goals repeat' (first|(refine gV ?_;first|refine vE ?_|refine vI ?_)|(refine gX ?_;first|refine xB ?_|(refine BxN.mk ?_ ?_;(focus (simp[AV.norm,AV.aD,cellsOf];done))))|exact True.intro)<;>conv=>whnf
   .have he:t.args=[]:=ZL (by omega)
    rw[if_neg h0,he,bB];dsimp only;refine ah.cx (.bx 7 4) rfl rfl ?_
    conv=>whnf
    refine ah.bY mW 7 4 (b:=8) (m:=0) (k:=0) (k0:=0) (l:=[]) rfl rfl rfl (ZG _) ?_
    conv=>whnf
    refine ah.lay [some 0,some 1,some 2,some 3,some 4,none,some 6,some 7,some 5,none] oko ?_
    conv=>whnf
    refine ah.at_ ?_ rfl
    conv=>whnf
    refine And.intro ?_ ?_<;>conv=>whnf
    all_goals repeat' (first|(refine gV ?_;first|refine vE ?_|refine vI ?_)|(refine gX ?_;first|refine xB ?_|(refine BxN.mk ?_ ?_;(focus (simp[AV.norm,AV.aD,he];done))))|exact True.intro)<;>conv=>whnf
  .rintro ⟨j,cj,kc⟩ ⟨q1,q2,q3⟩;dsimp only at q1 q2 q3|-
   by_cases hj:j<t.args.length
   .obtain ⟨x,hx⟩:∃x,t.args[j]? =some x:=⟨_,ZA hj⟩;have htk:t.args.take (j+1)=t.args.take j++[x]:=by rw[Zz,hx];rfl
    have hs:=x9 g (t.args.take j) x;rw[<-htk] at hs;have hl:=nO g (t.args.take j);have hlx:=bI t.args hx;have hxs:=ih x (ZE hx) (hv.kids (ZE hx));have hfj:=l8 (t.args.take j) hfr;have hkj:=ya g (t.args.take j);rw[Zn,XS (by omega)] at hkj
    have hlj:=bF t.args;rw[BQ,if_pos hj];generalize bB g (t.args.take j)=a at hs hl hkj hfj q2 q3|-;obtain⟨ga,ka⟩:=a;dsimp only at hs hl hkj hfj q2 q3|-
    conv=>whnf
    repeat' (first|refine gC (gD (cI ?_))|refine gI (gT (iA ?_)))<;>conv=>whnf
    refine ab.at [0,1,2,3,4,8] (hxs ga cj hfj q2 (by omega) (by omega)) rfl rfl ?_ oko ?_
    .rintro r bs' ⟨rfl,cp,hcp,rfl⟩;exact⟨rfl,rfl,oko⟩
    rintro r bs' ⟨rfl,cp,hcp,rfl⟩;generalize bC ga x=b at hs hcp|-;obtain⟨gb,kb⟩:=b;dsimp only at hs hcp|-
    conv=>whnf
    repeat' (first|refine gW (wI ?_)|(refine gP ?_;refine aOn λk hk=>?_)|refine gPr (pS ?_))<;>conv=>whnf
    refine⟨(j+1,cp,k),⟨⟨hj,by dsimp only;rw[hs];exact hcp,by dsimp only;rw[hs];exact hk⟩,by show _-(j+1)<_-j;omega⟩,?_⟩
    dsimp only;rw[BQ]
    by_cases hj1:j+1<t.args.length
    .rw [if_pos hj1,hs];dsimp only;refine ah.lay [some 0,some 1,some 2,some 3,some 4,none,some 6,some 7,some 11,some 12] oko ?_
     conv=>whnf
     exact au
    .rw [Zl (by omega)] at hs
     rw[if_neg hj1,hs];dsimp only;refine ah.bY mW 7 4 (b:=12) (l:=ka++[kb]) rfl rfl rfl (ZG _) ?_;rw[Zw]
     conv=>whnf
     refine ah.lay [some 0,some 1,some 2,some 3,some 4,none,some 6,some 7,some 11,none] oko ?_
     conv=>whnf
     exact au
   .obtain rfl:j=t.args.length:=by omega
    have hl:=nO g t.args;have hfj:=l8 t.args hfr;have hvn:t.kind=1->lk (bB g t.args).1.vars t.num=none:=λh=>by rw[hv.args h,bB];exact hnew h
    rw[BQ,if_neg hj];rw[Zl (ZG _)] at q2;generalize bB g t.args=a at hl hfj hvn q2|-;obtain⟨ga,ka⟩:=a;dsimp only at hl hfj hvn q2|-;have hln:=hfj ga.nodes.length (by omega)
    try replace hvn:=hvn (by assumption)
    conv=>whnf
    repeat' (first|(refine gC ?_;(refine gD ?_;first|refine cI ?_|refine cJ ?_))|refine gL (.map ?_)|refine gN (nS ?_)|(refine gP ?_;refine aOn λk hk=>?_)|refine gMp (mA ?_)|refine gPr (pS ?_)|refine gEn (eN ?_)|refine gSt (sN ?_))<;>conv=>whnf
    refine af.lay [some 0,some 1,some 2,some 3,some 4,none,some 10] oko ?_
    conv=>whnf
    repeat' refine af.nrm ?_<;>conv=>whnf
    refine⟨rfl,k,by rw[ZC] at hk;exact hk,?_⟩
    first
     |rw[zn (by assumption) hvn hln];rfl
     |rw[zo (by assumption)];rfl
end Go.CK
namespace Go.CK
open Go.AM Go.Proofs
theorem Gr.vl{g:Gr}{l:List (Int×(Int×Int))}{r:Int}{m:Int×Int}{cap:Nat}:({g with known:=pt l r m}:Gr).bs cap=[.cells [.sl (.own 5) (g.nodes.map Nd.av),.mpt 1,.bsl 5 g.up.length cap,.mpt 2,.mpt 3,.mpt 4],.mp (mpE bG g.vars),.mp (mpE bG g.shape),.mp (mpE uE g.least),.mp (fw (mpE msA l) r (msA m)),aL bG 1 cap g.up]:=by
 rw[kQ];rfl
def ng(N:Nat)(M:Gr->Nat->Option (Gr×Option (Int×Int))):Gr->List Nat->Int×Int->Option (Gr×Option (Int×Int))
 |g,[],m=>some (g,some m)
 |g,x::xs,m=>match ct N g.up x with
  |none=>none
  |some (u,r)=>match M {g with up:=u} r with
   |none=>none
   |some (g2,none)=>some (g2,none)
   |some (g2,some c)=>if 0<=c.1/\c.1<=201/\0<=c.2/\c.2<=21/\g2.up.length=g.up.length then ng N M g2 xs (min (m.1+c.1) 201,min (max m.2 (c.2+1)) 21) else none
def dP(N:Nat):Nat->Gr->List Int->Nat->Option (Gr×Option (Int×Int))
 |0,_,_,_=>none
 |f+1,g,busy,r=>match lk g.known r with
  |some m=>some (g,some m)
  |none=>if (r:Int)∈busy then some (g,none) else match lk g.shape r with
   |none=>some ({g with known:=pt g.known r (1,1)},some (1,1))
   |some k=>match g.nodes[k]? with
    |none=>none
    |some d=>if d.kids.length<=4000000000 then match ng N (λg x=>dP N f g (busy++[(r:Int)]) x) g d.kids (1,1) with
     |none=>none
     |some (g2,none)=>some (g2,none)
     |some (g2,some m)=>some ({g2 with known:=pt g2.known r m},some m)
     else none
def msO:Option (Int×Int)->AV
 |none=>.agg [.int .i64 0,.int .i64 0]
 |some m=>msA m
def GY(g2:Gr)(m:Option (Int×Int))(cap:Nat)(B:List (Int×Nat))(r:AV)(bs':List Box):Prop:=r=.tup [msO m,.bool m.isSome]/\∃c,bs'=g2.bs cap++[.mq (qB B) c,.cells (msO m).cells]
set_option maxHeartbeats 2000000 in
theorem As{N:Nat}:∀(f:Nat) {g:Gr} {B:List (Int×Nat)} {c r:Nat} {g2:Gr} {m:Option (Int×Int)} {cap:Nat},dP N f g (B.map (·.1)) r=some (g2,m)->g.up.length<=cap->AM.Sem Tryz.prog 147 [.ptr 0 0,.int .i64 (r:Int),.mpt 6] (g.bs cap++[.mq (qB B) c]) (GY g2 m cap B):=by
 intro f
 induction f with
 |zero=>intro g B c r g2 m cap h;cases h
 |succ f ih=>
  intro g B c r g2 m cap h hcap;rw[dP] at h;refine iG (by simp) ?_
  cases hk:lk g.known r with
  |some x=>
   rw[hk] at h;cases h
   conv=>whnf
   repeat' (first|refine gC (cY ?_)|refine gMp (mA ?_)|refine gMs (mEs ?_))<;>conv=>whnf
   refine af.lay [some 0,some 1,some 2,some 3,some 4,some 5,some 6,some 7] oko ?_
   conv=>whnf
   repeat' refine af.nrm ?_<;>conv=>whnf
   exact⟨rfl,c,rfl⟩
  |none=>
   rw[hk] at h;simp only at h
   by_cases hb:(r:Int)∈B.map (·.1)
   .rw [if_pos hb] at h;cases h
    conv=>whnf
    repeat' (first|refine gC (cN ?_)|(refine gMp ?_;first|refine mA ?_|refine mAq ?_)|refine gMs (mEn ?_))<;>conv=>whnf
    refine MqN.yes hb ?_
    conv=>whnf
    repeat' refine gC (cY ?_)<;>conv=>whnf
    refine af.lay [some 0,some 1,some 2,some 3,some 4,some 5,some 6,some 7] oko ?_
    conv=>whnf
    repeat' refine af.nrm ?_<;>conv=>whnf
    exact⟨rfl,c,rfl⟩
   .rw [if_neg hb] at h
    conv=>whnf
    repeat' (first|refine gC (cN ?_)|(refine gMp ?_;first|refine mA ?_|refine mAq ?_)|refine gMs (mEn ?_))<;>conv=>whnf
    refine MqN.no hb ?_
    cases hs:lk g.shape r with
    |none=>
     rw[hs] at h;cases h
     conv=>whnf
     repeat' (first|refine gC (cN ?_)|refine gN (nS ?_)|(refine gMp ?_;first|refine mA ?_|refine mAq ?_)|refine gMs (mEn ?_))<;>conv=>whnf
     refine fE.lay [some 0,some 1,some 2,some 3,some 4,some 5,some 6,some 7] oko ?_
     conv=>whnf
     refine fE.done (l:=qB (B++[((r:Int),c)])) (c:=tJ (qB B) r c) (by first|exact rfl|(show some (Box.mq (oY (qB B) r (.bool true) c) _)=_;rw[pR B _ c hb])) ?_
     rw[sZ B _ c hb]
     conv=>whnf
     refine⟨rfl,tJ (qB B) r c,?_⟩
     first|exact rfl|(rw[Gr.vl];rfl)
    |some k=>
     rw[hs] at h;simp only at h
     cases hd:g.nodes[k]? with
     |none=>rw[hd] at h;cases h
     |some d=>
      rw[hd] at h;simp only at h
      by_cases hdk:d.kids.length<=4000000000
      rotate_left
      .rw [if_neg hdk] at h;cases h
      rw[if_pos hdk] at h
      cases hL:ng N (λg x=>dP N f g (B.map (·.1)++[(r:Int)]) x) g d.kids (1,1) with
      |none=>rw[hL] at h;cases h
      |some gm=>
       obtain⟨g3,mo⟩:=gm;rw[hL] at h;have hBk:(B++[((r:Int),c)]).map (·.1)=B.map (·.1)++[(r:Int)]:=by simp
       rw[<-hBk] at hL
       conv=>whnf
       repeat' (first|(refine gC ?_;first|refine cY ?_|refine cN ?_)|refine gL (.map ?_)|refine gN (nS ?_)|refine gI (gM (iE ?_))|(refine gMp ?_;first|refine mA ?_|refine mAq ?_)|refine gMs (mEs ?_))<;>conv=>whnf
       refine aw.by (fb:=true) (λ_ (q:Nat×Gr×(Int×Int)×Nat)=>⟨[(0,.ptr 0 0),(1,.int .i64 (r:Int)),(2,.mpt 6),(6,.ptr 7 0),(10,.ptr 8 0),(54,.sl .no (d.kids.map bG)),(55,.int .i64 (d.kids.length:Int)),(56,.int .i64 (q.1:Int))],q.2.1.bs cap++[.mq (qB (B++[((r:Int),c)])) q.2.2.2,.cells [.int .i64 0,.int .i64 0],.cells [.int .i64 q.2.2.1.1,.int .i64 q.2.2.1.2]],7⟩) (λq=>q.1<=d.kids.length/\ng N (λg x=>dP N f g ((B++[((r:Int),c)]).map (·.1)) x) q.2.1 (d.kids.drop q.1) q.2.2.1=some (g3,mo)/\q.2.1.up.length=g.up.length/\0<=q.2.2.1.1/\q.2.2.1.1<=201/\0<=q.2.2.1.2/\q.2.2.1.2<=21) (λq=>d.kids.length-q.1) (0,g,(1,1),tJ (qB B) r c) ⟨ZJ _,hL,rfl,by show (0:Int)<=1;decide,by show (1:Int)<=201;decide,by show (0:Int)<=1;decide,by show (1:Int)<=21;decide⟩ ?_ ?_
       .refine ah.lay [some 0,some 1,some 2,some 3,some 4,some 5,some 6,some 7,some 9] oko ?_
        conv=>whnf
        dsimp only;rw[<-pR B _ c hb];refine ah.at_ ?_ rfl
        conv=>whnf
        refine And.intro ?_ ?_<;>conv=>whnf
        all_goals repeat' (first|(refine gV ?_;first|refine vE ?_|refine vI ?_)|refine gX (xB ?_)|exact True.intro)<;>conv=>whnf
        refine .mk rfl (.mk rfl ?_)
        conv=>whnf
        repeat' (first|refine gX (xB ?_)|exact True.intro)<;>conv=>whnf
       .rintro ⟨j,gj,⟨m1,m2⟩,cj⟩ ⟨q1,q2,q3,q4⟩;dsimp only at q1 q2 q3 q4|-
        by_cases hj:j<d.kids.length
        .obtain ⟨x,hx⟩:∃x,d.kids[j]? =some x:=⟨_,ZA hj⟩;rw[ZH hj,(ZB.1 hx).2,ng] at q2
         cases hr:ct N gj.up x with
         |none=>rw[hr] at q2;cases q2
         |some ur=>
          obtain⟨u,r'⟩:=ur;rw[hr] at q2;simp only at q2;have hul:=dc hr
          cases hm:dP N f {gj with up:=u} ((B++[((r:Int),c)]).map (·.1)) r' with
          |none=>rw[hm] at q2;cases q2
          |some gm=>
           obtain⟨g4,m4⟩:=gm;rw[hm] at q2
           conv=>whnf
           repeat' (first|refine gC (gD (cI ?_))|refine gI (gM (iE ?_)))<;>conv=>whnf
           refine ab.ate [0,1,2,3,4,5] (nX hr (by omega)) rfl rfl ?_
           conv=>whnf
           skip;have hcall:=ih (c:=cj) (cap:=cap) hm (by show u.length<=cap;omega)
           cases m4 with
           |none=>
            simp only at q2;refine ab.at [0,1,2,3,4,5,6] hcall rfl rfl ?_ oko ?_
            .rintro r bs' ⟨rfl,c',rfl⟩;exact⟨rfl,rfl,oko⟩
            rintro rr bs' ⟨hrr,c',rfl⟩;change rr=.tup [.agg [.int .i64 0,.int .i64 0],.bool false] at hrr;subst hrr;cases q2;cases h
            conv=>whnf
            repeat' (refine gC ?_;first|refine cN ?_|refine .not ?_)<;>conv=>whnf
            refine fE.lay [some 0,some 1,some 2,some 3,some 4,some 5,some 6,some 7] oko ?_
            conv=>whnf
            refine fE.done (l:=qB (B++[((r:Int),c)])) (c:=c') (by first|exact rfl|(show some (Box.mq (oY (qB B) r (.bool true) c) _)=_;rw[pR B _ c hb])) ?_
            rw[sZ B _ c hb]
            conv=>whnf
            refine⟨rfl,c',?_⟩
            first|exact rfl|(rw[Gr.vl];rfl)
           |some m4=>
            simp only at q2
            by_cases hcc:0<=m4.1/\m4.1<=201/\0<=m4.2/\m4.2<=21/\g4.up.length=gj.up.length
            rotate_left
            .rw [if_neg hcc] at q2;cases q2
            rw[if_pos hcc] at q2;obtain⟨c1,c2,c3,c4,c5⟩:=hcc;refine ab.at [0,1,2,3,4,5,6] hcall rfl rfl ?_ oko ?_
            .rintro r bs' ⟨rfl,c',rfl⟩;exact⟨rfl,rfl,oko⟩
            rintro rr bs' ⟨hrr,c',rfl⟩;change rr=.tup [.agg [.int .i64 m4.1,.int .i64 m4.2],.bool true] at hrr;subst hrr
            conv=>whnf
            repeat' (first|(refine gC ?_;first|refine cY ?_|refine .not ?_)|refine gW (wI ?_))<;>conv=>whnf
            refine⟨(j+1,g4,(min (m1+m4.1) 201,min (max m2 (m4.2+1)) 21),c'),⟨⟨hj,q2,by show g4.up.length=_;omega,by show 0<=min (m1+m4.1) 201;omega,by show min (m1+m4.1) 201<=201;omega,by show 0<=min (max m2 (m4.2+1)) 21;omega,by show min (max m2 (m4.2+1)) 21<=21;omega⟩,by show _-(j+1)<_-j;omega⟩,?_⟩
            dsimp only;refine ah.lay [some 0,some 1,some 2,some 3,some 4,some 5,some 6,some 7,some 8] oko ?_
            conv=>whnf
            exact au
        .obtain rfl:j=d.kids.length:=by omega
         rw[Zj,ng] at q2;cases q2;cases h
         conv=>whnf
         repeat' (first|refine gC (gD (cJ ?_))|refine gN (nS ?_)|refine gMp (mA ?_))<;>conv=>whnf
         refine fE.lay [some 0,some 1,some 2,some 3,some 4,some 5,some 6,some 7] oko ?_
         conv=>whnf
         refine fE.done (l:=qB (B++[((r:Int),c)])) (c:=cj) (by first|exact rfl|(show some (Box.mq (oY (qB B) r (.bool true) c) _)=_;rw[pR B _ c hb])) ?_
         rw[sZ B _ c hb]
         conv=>whnf
         refine⟨rfl,cj,?_⟩
         first|exact rfl|(rw[Gr.vl];rfl)
end Go.CK
