/-
  Texts of this aX joined (wip/gen/bundle.py),those declarations only that are needed:UnA UnB UnC UnD. By an AI agent.
-/
import Derived.Test.YtpihbplamelcnaaGreatBaw
set_option linter.unusedSimpArgs false
set_option linter.unusedVariables false
set_option maxRecDepth 100000
namespace Go.CK
open Go.AM Go.Proofs
structure Nd where
 t:Tm
 kids:List Nat
def Nd.av(x:Nd):AV:=.agg [.int .i64 x.t.kind,.int .i64 x.t.num,.str x.t.name,.sl .no (x.t.args.map Tm.av),.sl .no (x.kids.map dw)]
def y8(n:Int):AV:=.int .i64 n
def msA(m:Int×Int):AV:=.agg [.int .i64 m.1,.int .i64 m.2]
structure Gr where
 nodes:List Nd
 vars:List (Int×Nat)
 up:List Nat
 shape:List (Int×Nat)
 least:List (Int×Int)
 known:List (Int×(Int×Int))
def Gr.bs(g:Gr)(cap:Nat):List Box:=[.cells [.sl (.own 5) (g.nodes.map Nd.av),.mpt 1,.bsl 5 g.up.length cap,.mpt 2,.mpt 3,.mpt 4],.mp (mpE dw g.vars),.mp (mpE dw g.shape),.mp (mpE y8 g.least),.mp (mpE msA g.known),aZ dw 1 cap g.up]
def dg:Nat->List Nat->Nat->Option (List Nat×Nat)
 |0,_,_=>none
 |f+1,up,k=>match up[k]? with
  |none=>none
  |some p=>if p=k then some (up,k) else match up[p]? with
   |none=>none
   |some q=>dg f (up.set k q) q
theorem p7{g:Gr}{k k' cap f:Nat}{up':List Nat}(h:dg f g.up k=some (up',k'))(hcap:g.up.length<=cap):AM.Sem Tryz.prog 151 [.ptr 0 0,.int .i64 (k:Int)] (g.bs cap) λr bs'=>r=.int .i64 (k':Int)/\bs'=({g with up:=up'}:Gr).bs cap:=by
 refine oz (by simp) ?_
 conv=>whnf
 skip;refine ax.by (fb:=true) (λ_ (q:Nat×List Nat×Nat)=>⟨[(0,.ptr 0 0),(1,.int .i64 (q.2.2:Int))],({g with up:=q.2.1}:Gr).bs cap,6⟩) (λq=>dg q.1 q.2.1 q.2.2=some (up',k')/\q.2.1.length=g.up.length) (λq=>q.1) (f,g.up,k) ⟨h,rfl⟩ ?_ ?_
 .exact aH
 .rintro ⟨f,up,k⟩ ⟨h1,h2⟩;dsimp only at h1 h2|-
  cases f with
  |zero=>cases h1
  |succ f=>
   simp only[dg] at h1
   cases hp:up[k]? with
   |none=>rw[hp] at h1;cases h1
   |some p=>
    rw[hp] at h1;have hk:k<up.length:=(zB.1 hp).1;simp only at h1
    by_cases hpk:p=k
    .rw [if_pos hpk] at h1;cases h1
     conv=>whnf
     repeat' (first|(refine gC ?_;first|refine .not ?_|refine gD (cI ?_))|refine gN (nS ?_)|(refine gE ?_;refine eLn ?_)|refine ae.nrm ?_)<;>conv=>whnf
     exact⟨rfl,rfl⟩
    .rw [if_neg hpk] at h1
     cases hq:up[p]? with
     |none=>rw[hq] at h1;cases h1
     |some q=>
      rw[hq] at h1;have hp2:p<up.length:=(zB.1 hq).1;have hset:(up.set k q)[k]? =some q:=by simp[hk]
      have hlen:(up.set k q).length=up.length:=zm
      conv=>whnf
      repeat' (first|(refine gC ?_;first|refine .not ?_|refine gD (cJ ?_))|refine gN (nS ?_)|(refine gE ?_;refine eLn ?_)|refine gS (eSn ?_))<;>conv=>whnf
      refine⟨(f,up.set k q,q),⟨⟨h1,hlen.trans h2⟩,yB _⟩,?_⟩;refine ah.at_ ?_ rfl
      conv=>whnf
      refine And.intro ?_ ?_<;>conv=>whnf
      all_goals repeat' (first|refine gV (vE ?_)|(refine gX ?_;first|refine xB ?_|(refine BxN.mk ?_ ?_;(focus (simp[AV.norm,AV.ao,];done))))|exact True.intro)<;>conv=>whnf
def gJ(a b:Tm):Bool:=decide (a.kind=b.kind)&&(decide (a.num=b.num)&&(decide (a.name=b.name)&&decide (a.args.length=b.args.length)))
theorem M9{g:Gr}{i k cap:Nat}{x y:Nd}(hx:g.nodes[i]? =some x)(hy:g.nodes[k]? =some y):AM.Sem Tryz.prog 152 [.ptr 0 0,.int .i64 (i:Int),.int .i64 (k:Int)] (g.bs cap) λr bs'=>r=.bool (gJ x.t y.t)/\bs'=g.bs cap:=by
 refine nF (by simp) ?_
 conv=>whnf
 repeat' (first|(refine gC ?_;first|refine cN ?_|(refine gD ?_;first|refine cI ?_|refine cJ ?_)|refine ak.dec (λhc=>?_) (λhc=>?_))|refine gL (.map ?_)|refine gI (gM (iE ?_))|refine vM.mk ?_ ?_)<;>conv=>whnf
 all_goals (refine ae.lay [some 0,some 1,some 2,some 3,some 4,some 5] oko ?_;conv=>whnf)
 conv=>whnf
 repeat' refine ae.nrm ?_<;>conv=>whnf
 all_goals (refine⟨?_,rfl⟩;simp[gJ, *])
 all_goals omega
def aO(g:Gr)(a b:Nat):Gr:=
 {g with
  up:=g.up.set b a
  shape:=match lk g.shape b with
   |none=>g.shape
   |some k=>match lk g.shape a with
    |none=>pt g.shape a k
    |some _=>g.shape
  least:=match lk g.least b with
   |none=>g.least
   |some v=>match lk g.least a with
    |none=>pt g.least a v
    |some w=>if v<w then pt g.least a v else g.least}
theorem tb{g:Gr}{a b cap:Nat}(hb:b<g.up.length)(hcap:g.up.length<=cap):AM.Sem Tryz.prog 153 [.ptr 0 0,.int .i64 (a:Int),.int .i64 (b:Int)] (g.bs cap) λr bs'=>r=.tup []/\bs'=(aO g a b).bs cap:=by
 obtain⟨p,hp⟩:∃p,g.up[b]? =some p:=⟨_,zA hb⟩;refine nE (by simp) ?_
 conv=>whnf
 repeat' (first|(refine gC ?_;first|refine cY ?_|refine cN ?_|refine .not ?_|refine ak.lt (λhc=>?_) (λhc=>?_))|refine gN (nS ?_)|refine gS (eSn ?_)|refine gMp (mA ?_)|(refine gMs ?_;refine mE (λv hc=>?_) (λhc=>?_))|refine ae.nrm ?_)<;>conv=>whnf
 all_goals refine⟨rfl,?_⟩
 all_goals (conv=>rhs;simp only[aO,Gr.bs, *,zm,if_true,if_false])
 all_goals (first|rfl|(conv=>rhs;simp only[<-pc]);rfl|(rw[if_neg (by omega)];rfl)|(rw[if_neg (by omega)];conv=>rhs;simp only[<-pc]);rfl)
end Go.CK
namespace Go.CK
open Go.AM Go.Proofs
def Ca(p:Nat×Nat):AV:=.agg [.int .i64 (p.1:Int),.int .i64 (p.2:Int)]
theorem gR:Plain Ca 2:=⟨by omega,λ_=>rfl,λx c h=>by simp[Ca,AV.cells] at h;rcases h with rfl|rfl<;>rfl,λx c h=>by simp[Ca,AV.cells] at h;rcases h with rfl|rfl<;>rfl⟩
def fe(N:Nat):Nat->Gr->List (Nat×Nat)->Option (Gr×Bool)
 |0,_,_=>none
 |f+1,g,ps=>match ps.getLast? with
  |none=>some (g,true)
  |some (x,y)=>match dg N g.up x with
   |none=>none
   |some (u1,a)=>match dg N u1 y with
    |none=>none
    |some (u2,b)=>
     if a=b then fe N f {g with up:=u2} ps.dropLast
     else match lk g.shape a,lk g.shape b with
      |some i,some k=>match g.nodes[i]?,g.nodes[k]? with
       |some p,some q=>
        if gJ p.t q.t=true then
         if p.kids.length<=q.kids.length/\b<u2.length/\ps.length+p.kids.length<=4000000000 then fe N f (aO {g with up:=u2} a b) (ps.dropLast++p.kids.zip q.kids) else none
        else some ({g with up:=u2},false)
       |_,_=>none
      |_,_=>if b<u2.length then fe N f (aO {g with up:=u2} a b) ps.dropLast else none
theorem dZ{N:Nat}:∀{up:List Nat} {k:Nat} {u:List Nat} {r:Nat},dg N up k=some (u,r)->u.length=up.length:=by
 induction N with
 |zero=>intro up k u r h;cases h
 |succ N ih=>
  intro up k u r h;simp only[dg] at h;split at h
  .cases h
  .split at h
   .cases h;rfl
   .split at h
    .cases h
    .rw [ih h,zm]
theorem N9{N f cap capp m:Nat}{g g':Gr}{ps:List (Nat×Nat)}{b:Bool}(h:fe N f g ps=some (g',b))(hcap:g.up.length<=cap)(hm:m=ps.length)(hmc:m<=capp)(hps:ps.length<=4000000000):AM.Sem Tryz.prog 135 [.ptr 0 0,.bsl 6 m capp] (g.bs cap++[aZ Ca 2 capp ps]) λr bs'=>r=.bool b/\bs'=g'.bs cap++[.dead]:=by
 subst hm;refine oA (by simp) ?_
 conv=>whnf
 skip;refine ax.by (fb:=true) (λ_ (q:Nat×Gr×List (Nat×Nat)×Nat)=>⟨[(0,.ptr 0 0),(1,.bsl 7 q.2.2.1.length q.2.2.2)],q.2.1.bs cap++[.dead,aZ Ca 2 q.2.2.2 q.2.2.1],7⟩) (λq=>fe N q.1 q.2.1 q.2.2.1=some (g',b)/\q.2.1.up.length=g.up.length/\q.2.2.1.length<=q.2.2.2/\q.2.2.1.length<=4000000000) (λq=>q.1) (f,g,ps,capp) ⟨h,rfl,hmc,hps⟩ ?_ ?_
 .refine ah.lay [some 0,some 1,some 2,some 3,some 4,some 5,none,some 6] oko ?_
  conv=>whnf
  exact aH
 .rintro ⟨f,g,ps,capp⟩ ⟨h1,h2,h3,h4⟩;dsimp only at h1 h2 h3 h4|-
  cases f with
  |zero=>cases h1
  |succ f=>
   simp only[fe] at h1;rcases List.eq_nil_or_concat ps with rfl|⟨ps,⟨x,y⟩,rfl⟩
   .simp only[List.getLast?_nil,zN,Prod.mk.injEq] at h1;obtain⟨rfl,rfl⟩:=h1
    conv=>whnf
    repeat' refine gC (gD (cJd ?_))<;>conv=>whnf
    refine ae.lay [some 0,some 1,some 2,some 3,some 4,some 5,none] oko ?_
    conv=>whnf
    repeat' refine ae.nrm ?_<;>conv=>whnf
    exact⟨rfl,rfl⟩
   .rw [List.concat_eq_append] at h1 h3 h4|-;simp only[List.getLast?_concat,List.dropLast_concat,zC,zU] at h1 h3 h4
    cases hr1:dg N g.up x with
    |none=>rw[hr1] at h1;cases h1
    |some ua=>
     obtain⟨u1,a⟩:=ua;rw[hr1] at h1;simp only at h1;have hl1:=dZ hr1
     cases hr2:dg N u1 y with
     |none=>rw[hr2] at h1;cases h1
     |some ub=>
      obtain⟨u2,b'⟩:=ub;rw[hr2] at h1;simp only at h1;have hl2:=dZ hr2;have hlp:(ps++[(x,y)]).length=ps.length+1:=by simp
      have hlast:(ps++[(x,y)])[((((ps++[(x,y)]).length:Nat):Int)-1).toNat]? =some (x,y):=by rw[show ((((ps++[(x,y)]).length:Nat):Int)-1).toNat=ps.length by omega];simp
      conv=>whnf
      repeat' (first|refine gC (gD (cI ?_))|refine gW (wI ?_)|refine gN (nS ?_))<;>conv=>whnf
      refine ElN.cell gR rfl hlast rfl ?_
      conv=>whnf
      repeat' refine gN (nS ?_)<;>conv=>whnf
      refine ElN.cell gR rfl hlast rfl ?_
      conv=>whnf
      skip;refine aa.ate [0,1,2,3,4,5] (p7 hr1 (by omega)) rfl rfl ?_
      conv=>whnf
      repeat' refine gPr (pS ?_)<;>conv=>whnf
      refine aa.ate [0,1,2,3,4,5] (p7 (g:={g with up:=u1}) hr2 (by show u1.length<=cap;omega)) rfl rfl ?_
      by_cases hab:a=b'
      .rw [if_pos hab] at h1
       conv=>whnf
       repeat' (first|refine gC (gD (cI ?_))|refine gN (nS ?_))<;>conv=>whnf
       refine⟨(f,{g with up:=u2},ps,capp),⟨⟨h1,by show u2.length=_;omega,by show ps.length<=capp;omega,by show ps.length<=4000000000;omega⟩,yB _⟩,?_⟩
       refine ah.rq gR 7 ps.length (l:=ps++[(x,y)]) rfl (by omega) (by omega) ?_
       rw[List.take_left];refine ah.at_ ?_ rfl
       conv=>whnf
       refine And.intro ?_ ?_<;>conv=>whnf
       all_goals repeat' (first|(refine gV ?_;first|refine vE ?_|(refine WkN.norm ?_ ?_;(focus (simp[AV.norm,AV.ao,];done))))|refine gX (xB ?_)|exact True.intro)<;>conv=>whnf
      .rw [if_neg hab] at h1
       have hbl:∀{g2:Gr} {ps2:List (Nat×Nat)} {K:Prop},(if b'<u2.length then fe N f g2 ps2 else none)=some (g',b)->(b'<u2.length->fe N f g2 ps2=some (g',b)->K)->K:=λh k=>by
        by_cases hb:b'<u2.length
        .rw [if_pos hb] at h;exact k hb h
        .rw [if_neg hb] at h;cases h
       cases hsa:lk g.shape a with
       |none=>
        rw[hsa] at h1;refine hbl h1 λhb h1=>?_
        conv=>whnf
        repeat' (first|(refine gC ?_;first|refine cN ?_|refine gD (cJ ?_))|refine gN (nS ?_)|refine gMp (mA ?_)|(refine gMs ?_;first|refine mEn ?_|refine mE (λv hc=>?_) (λhc=>?_)))<;>conv=>whnf
        .refine aa.ate [0,1,2,3,4,5] (tb (g:={g with up:=u2}) hb (by show u2.length<=cap;omega)) rfl rfl ?_
         conv=>whnf
         skip;refine⟨(f,aO {g with up:=u2} a b',ps,capp),⟨⟨h1,by show (u2.set b' a).length=_;rw[zm];omega,by show ps.length<=capp;omega,by show ps.length<=4000000000;omega⟩,yB _⟩,?_⟩
         refine ah.rq gR 7 ps.length (l:=ps++[(x,y)]) rfl (by omega) (by omega) ?_
         rw[List.take_left];refine ah.at_ ?_ rfl
         conv=>whnf
         refine And.intro ?_ ?_<;>conv=>whnf
         all_goals repeat' (first|(refine gV ?_;first|refine vE ?_|(refine WkN.norm ?_ ?_;(focus (simp[AV.norm,AV.ao,];done))))|refine gX (xB ?_)|exact True.intro)<;>conv=>whnf
        .refine aa.ate [0,1,2,3,4,5] (tb (g:={g with up:=u2}) hb (by show u2.length<=cap;omega)) rfl rfl ?_
         conv=>whnf
         skip;refine⟨(f,aO {g with up:=u2} a b',ps,capp),⟨⟨h1,by show (u2.set b' a).length=_;rw[zm];omega,by show ps.length<=capp;omega,by show ps.length<=4000000000;omega⟩,yB _⟩,?_⟩
         refine ah.rq gR 7 ps.length (l:=ps++[(x,y)]) rfl (by omega) (by omega) ?_
         rw[List.take_left];refine ah.at_ ?_ rfl
         conv=>whnf
         refine And.intro ?_ ?_<;>conv=>whnf
         all_goals repeat' (first|(refine gV ?_;first|refine vE ?_|(refine WkN.norm ?_ ?_;(focus (simp[AV.norm,AV.ao,];done))))|refine gX (xB ?_)|exact True.intro)<;>conv=>whnf
       |some i=>
        rw[hsa] at h1
        cases hsb:lk g.shape b' with
        |none=>
         rw[hsb] at h1;refine hbl h1 λhb h1=>?_
         conv=>whnf
         repeat' (first|(refine gC ?_;first|refine cY ?_|refine cN ?_|refine gD (cJ ?_))|refine gN (nS ?_)|refine gMp (mA ?_)|(refine gMs ?_;first|refine mEs ?_|refine mEn ?_))<;>conv=>whnf
         refine aa.ate [0,1,2,3,4,5] (tb (g:={g with up:=u2}) hb (by show u2.length<=cap;omega)) rfl rfl ?_
         conv=>whnf
         skip;refine⟨(f,aO {g with up:=u2} a b',ps,capp),⟨⟨h1,by show (u2.set b' a).length=_;rw[zm];omega,by show ps.length<=capp;omega,by show ps.length<=4000000000;omega⟩,yB _⟩,?_⟩
         refine ah.rq gR 7 ps.length (l:=ps++[(x,y)]) rfl (by omega) (by omega) ?_
         rw[List.take_left];refine ah.at_ ?_ rfl
         conv=>whnf
         refine And.intro ?_ ?_<;>conv=>whnf
         all_goals repeat' (first|(refine gV ?_;first|refine vE ?_|(refine WkN.norm ?_ ?_;(focus (simp[AV.norm,AV.ao,];done))))|refine gX (xB ?_)|exact True.intro)<;>conv=>whnf
        |some k=>
         rw[hsb] at h1;simp only at h1
         cases hni:g.nodes[i]? with
         |none=>rw[hni] at h1;cases h1
         |some p=>
          cases hnk:g.nodes[k]? with
          |none=>rw[hni,hnk] at h1;cases h1
          |some o=>
           rw[hni,hnk] at h1;simp only at h1
           conv=>whnf
           repeat' (first|(refine gC ?_;first|refine cY ?_|refine gD (cJ ?_))|refine gN (nS ?_)|refine gMp (mA ?_)|refine gMs (mEs ?_))<;>conv=>whnf
           refine aa.ate [0,1,2,3,4,5] (M9 (g:={g with up:=u2}) hni hnk) rfl rfl ?_
           cases hal:gJ p.t o.t with
           |false=>
            rw[hal,if_neg Za] at h1;cases h1
            conv=>whnf
            repeat' (refine gC ?_;first|refine cN ?_|refine .not ?_)<;>conv=>whnf
            refine ae.lay [some 0,some 1,some 2,some 3,some 4,some 5,none] oko ?_
            conv=>whnf
            repeat' refine ae.nrm ?_<;>conv=>whnf
            exact⟨rfl,rfl⟩
           |true=>
            rw[hal,if_pos rfl] at h1
            by_cases hko:p.kids.length<=o.kids.length/\b'<u2.length/\ps.length+1+p.kids.length<=4000000000
            .rw [if_pos hko] at h1;obtain⟨hko,hb,hkl⟩:=hko;obtain⟨kz,hkz⟩:∃kz,kz=p.kids.zip o.kids:=⟨_,rfl⟩;have hkzl:kz.length=p.kids.length:=by rw[hkz,List.length_zip];omega
             rw[<-hkz] at h1
             conv=>whnf
             repeat' (first|(refine gC ?_;first|refine cY ?_|refine .not ?_)|refine gL (.map ?_)|refine gI (gM (iE ?_)))<;>conv=>whnf
             refine ax.by (fb:=true) (λ_ (q:Nat×Nat)=>⟨[(0,.ptr 0 0),(1,.bsl 7 (ps++kz.take q.1).length q.2),(6,.int .i64 (a:Int)),(7,.int .i64 (b':Int)),(10,.int .i64 (k:Int)),(74,.sl .no (p.kids.map dw)),(75,.int .i64 (p.kids.length:Int)),(76,.int .i64 (q.1:Int))],({g with up:=u2}:Gr).bs cap++[.dead,aZ Ca 2 q.2 (ps++kz.take q.1)],7⟩) (λq=>q.1<=p.kids.length/\ps.length+q.1<=q.2) (λq=>p.kids.length-q.1) (0,capp) ⟨zJ _,by show ps.length+0<=capp;omega⟩ ?_ ?_
             .refine ah.rq gR 7 ps.length (l:=ps++[(x,y)]) rfl (by omega) (by omega) ?_
              rw[List.take_left];simp only[ZL,zy];refine ah.at_ ?_ rfl
              conv=>whnf
              refine And.intro ?_ ?_<;>conv=>whnf
              all_goals repeat' (first|(refine gV ?_;first|refine vE ?_|refine vI ?_|(refine WkN.norm ?_ ?_;(focus (simp[AV.norm,AV.ao,];done))))|refine gX (xB ?_)|exact True.intro)<;>conv=>whnf
             .rintro ⟨j,cq⟩ ⟨q1,q2⟩;dsimp only at q1 q2|-;have hln:(ps++kz.take j).length=ps.length+j:=by rw[zC,zn];omega
              by_cases hj:j<p.kids.length
              .obtain ⟨w1,hw1⟩:∃w,p.kids[j]? =some w:=⟨_,zA hj⟩;obtain⟨w2,hw2⟩:∃w,o.kids[j]? =some w:=⟨_,zA (by omega)⟩
               have hz:kz[j]? =some (w1,w2):=by rw[hkz];exact ZU.2 ⟨hw1,hw2⟩
               have he:ps++kz.take (j+1)=(ps++kz.take j)++[(w1,w2)]:=by rw[ZC,hz,Option.toList_some,zg]
               conv=>whnf
               repeat' (first|refine gC (gD (cI ?_))|refine gI (gM (iE ?_)))<;>conv=>whnf
               refine sb.one gR (x:=(w1,w2)) rfl rfl (by omega) (by omega) λk' hk'=>?_
               conv=>whnf
               repeat' refine gW (wI ?_)<;>conv=>whnf
               refine⟨(j+1,k'),⟨⟨hj,by rw[zC,hln] at hk';exact hk'⟩,by show _-(j+1)<_-j;omega⟩,?_⟩
               dsimp only;rw[he];refine ah.lay [some 0,some 1,some 2,some 3,some 4,some 5,none,some 8] oko ?_
               conv=>whnf
               exact aH
              .obtain rfl:j=p.kids.length:=by omega
               conv=>whnf
               repeat' refine gC (gD (cJ ?_))<;>conv=>whnf
               refine aa.ate [0,1,2,3,4,5] (tb (g:={g with up:=u2}) hb (by show u2.length<=cap;omega)) rfl rfl ?_
               conv=>whnf
               skip;rw[zl (by omega)] at hln|-
               refine⟨(f,aO {g with up:=u2} a b',ps++kz,cq),⟨⟨h1,by show (u2.set b' a).length=_;rw[zm];omega,by show (ps++kz).length<=cq;omega,by show (ps++kz).length<=4000000000;omega⟩,yB _⟩,?_⟩
               exact aH
            .rw [if_neg hko] at h1;cases h1
end Go.CK
namespace Go.CK
open Go.AM Go.Proofs
def cH(g:Gr)(t:Tm)(kids:List Nat):Gr:={g with
 nodes:=g.nodes++[⟨t,kids⟩]
 up:=g.up++[g.nodes.length]
 vars:=if t.kind=1 then pt g.vars t.num g.nodes.length else g.vars
 least:=if t.kind=1 then pt g.least g.nodes.length t.num else g.least
 shape:=if t.kind=1 then g.shape else pt g.shape g.nodes.length g.nodes.length}
mutual
def b8:Gr->Tm->Gr×Nat
 |g,.mk k n s l=>match (if k=1 then lk g.vars n else none) with
  |some i=>(g,i)
  |none=>(cH (b7 g l).1 (.mk k n s l) (b7 g l).2,(b7 g l).1.nodes.length)
def b7:Gr->List Tm->Gr×List Nat
 |g,[]=>(g,[])
 |g,t::r=>((b7 (b8 g t).1 r).1,(b8 g t).2::(b7 (b8 g t).1 r).2)
end
theorem GN{g:Gr}{t:Tm}{i:Nat}(h1:t.kind=1)(h2:lk g.vars t.num=some i):b8 g t=(g,i):=by
 obtain⟨k,n,s,l⟩:=t;simp only[Tm.kind,Tm.num] at h1 h2;rw[b8,if_pos h1,h2]
theorem GO{g:Gr}{t:Tm}(h:t.kind=1->lk g.vars t.num=none):b8 g t=(cH (b7 g t.args).1 t (b7 g t.args).2,(b7 g t.args).1.nodes.length):=by
 obtain⟨k,n,s,l⟩:=t;simp only[Tm.kind,Tm.num] at h;rw[b8]
 have:(if k=1 then lk g.vars n else none)=none:=by
  split
  .exact h ‹_›
  .rfl
 rw[this];rfl
theorem C6:∀(g:Gr) (l:List Tm) (t:Tm),b7 g (l++[t])=((b8 (b7 g l).1 t).1,(b7 g l).2++[(b8 (b7 g l).1 t).2])
 |g,[],t=>by simp only[Zn,b7]
 |g,x::l,t=>by simp only[ze,b7,C6 (b8 g x).1 l t]
mutual
theorem nd:∀(g:Gr) (t:Tm),(b8 g t).1.nodes.length<=g.nodes.length+t.nodes/\(b8 g t).1.up.length<=g.up.length+t.nodes
 |g,.mk k n s l=>by
  have:=pV g l;rw[b8];split
  .dsimp only;omega
  .simp only[cH,zC,zU,Tm.nodes];omega
theorem pV:∀(g:Gr) (l:List Tm),(b7 g l).1.nodes.length<=g.nodes.length+Tm.aj l/\(b7 g l).1.up.length<=g.up.length+Tm.aj l
 |g,[]=>⟨zG _,zG _⟩
 |g,t::r=>by
  have h1:=nd g t;have h2:=pV (b8 g t).1 r;simp only[b7,Tm.aj];omega
end
mutual
def Tm.Vok:Tm->Prop
 |.mk k _ _ l=>(k=1->l=[])/\Tm.Nj l
def Tm.Nj:List Tm->Prop
 |[]=>True
 |t::r=>t.Vok/\Tm.Nj r
end
theorem Tm.GS:∀{l:List Tm} {x:Tm},Tm.Nj l->x∈l->x.Vok
 |y::l,x,h,hm=>by
  simp only[Tm.Nj] at h;rcases zI.1 hm with rfl|hm
  .exact h.1
  .exact Tm.GS h.2 hm
theorem Tm.Vok.args{t:Tm}(h:t.Vok):t.kind=1->t.args=[]:=by
 obtain⟨k,n,s,l⟩:=t;simp only[Tm.Vok] at h;exact h.1
theorem Tm.Vok.kids{t x:Tm}(h:t.Vok)(hx:x∈t.args):x.Vok:=by
 obtain⟨k,n,s,l⟩:=t;simp only[Tm.Vok] at h;exact Tm.GS h.2 hx
def Gr.fresh(g:Gr):Prop:=∀k:Int,(g.nodes.length:Int)<=k->lk g.least k=none
theorem A9{g:Gr}{t:Tm}{l:List Nat}(h:g.fresh):(cH g t l).fresh:=λk hk=>by
 simp only[cH,zC,zU] at hk|-;split
 .rw [fc,if_neg (by omega)];exact h k (by omega)
 .exact h k (by omega)
mutual
theorem Is:∀{g:Gr} (t:Tm),g.fresh->(b8 g t).1.fresh
 |g,.mk k n s l,h=>by
  rw[b8];split
  .exact h
  .exact A9 (oa l h)
theorem oa:∀{g:Gr} (l:List Tm),g.fresh->(b7 g l).1.fresh
 |g,[],h=>h
 |g,t::r,h=>by simp only[b7];exact oa r (Is t h)
end
theorem C7:∀(g:Gr) (l:List Tm),(b7 g l).2.length=l.length
 |g,[]=>rfl
 |g,t::r=>by simp only[b7,zX,C7 (b8 g t).1 r]
theorem Tm.J8(t:Tm):1<=t.nodes:=by obtain⟨k,n,s,l⟩:=t;simp only[Tm.nodes];omega
theorem gg:∀(l:List Tm),l.length<=Tm.aj l
 |[]=>zJ _
 |t::r=>by have:=gg r;have:=t.J8;simp only[Tm.aj,zX];omega
theorem kO:∀(l:List Tm) {j:Nat} {x:Tm},l[j]? =some x->Tm.aj (l.take j)+x.nodes<=Tm.aj l
 |y::l,0,x,h=>by simp at h;subst h;simp only[ZL,Tm.aj];omega
 |y::l,j+1,x,h=>by
  have:=kO l (j:=j) (x:=x) (by simpa using h)
  simp only[yM,Tm.aj];omega
 |[],j,x,h=>by simp at h
def Gr.bs6(g:Gr)(cap:Nat):List Box:=[.cells [.sl (.own 5) (g.nodes.map Nd.av),.mpt 1,.bsl 6 g.up.length cap,.mpt 2,.mpt 3,.mpt 4],.mp (mpE dw g.vars),.mp (mpE dw g.shape),.mp (mpE y8 g.least),.mp (mpE msA g.known),.dead,aZ dw 1 cap g.up]
def OY(g:Gr)(cap:Nat)(t:Tm)(x y:Box)(kd:AV):List Box:=[.cells [.sl (.own 5) (g.nodes.map Nd.av),.mpt 1,.bsl 8 g.up.length cap,.mpt 2,.mpt 3,.mpt 4],.mp (mpE dw g.vars),.mp (mpE dw g.shape),.mp (mpE y8 g.least),.mp (mpE msA g.known),.dead,.cells [.int .i64 t.kind,.int .i64 t.num,.str t.name,.sl .no (t.args.map Tm.av)],.cells [.int .i64 t.kind,.int .i64 t.num,.str t.name,.sl .no (t.args.map Tm.av),kd],x,y]
def GP(g:Gr)(t:Tm)(j cap kc:Nat):St:=⟨[(0,.ptr 0 0),(3,.ptr 6 0),(7,.ptr 7 0),(29,.sl .no (t.args.map Tm.av)),(30,.int .i64 (t.args.length:Int)),(31,.int .i64 (j:Int))],
 if j<t.args.length then OY (b7 g (t.args.take j)).1 cap t (aZ dw 1 cap (b7 g (t.args.take j)).1.up) (aZ dw 1 kc (b7 g (t.args.take j)).2) (.bsl 9 (b7 g (t.args.take j)).2.length kc)
 else OY (b7 g t.args).1 cap t (aZ dw 1 cap (b7 g t.args).1.up) .dead (.sl .no ((b7 g t.args).2.map dw)),6⟩
theorem Er{g:Gr}{t:Tm}{l:List Nat}{k:Nat}(h:t.kind=1)(h1:lk g.vars t.num=none)(h2:lk g.least g.nodes.length=none):(cH g t l).bs6 k=[.cells [.sl (.own 5) (g.nodes.map Nd.av++[Nd.av ⟨t,l⟩]),.mpt 1,.bsl 6 (g.up++[g.nodes.length]).length k,.mpt 2,.mpt 3,.mpt 4],.mp (mpE dw g.vars++[(t.num,dw g.nodes.length)]),.mp (mpE dw g.shape),.mp (mpE y8 g.least++[((g.nodes.length:Int),y8 t.num)]),.mp (mpE msA g.known),.dead,aZ dw 1 k (g.up++[g.nodes.length])]:=by
 rw[I3 h1,I3 h2];simp only[cH,Gr.bs6,if_pos h,zu,zP,Zf]
theorem Es{g:Gr}{t:Tm}{l:List Nat}{k:Nat}(h:¬t.kind=1):(cH g t l).bs6 k=[.cells [.sl (.own 5) (g.nodes.map Nd.av++[Nd.av ⟨t,l⟩]),.mpt 1,.bsl 6 (g.up++[g.nodes.length]).length k,.mpt 2,.mpt 3,.mpt 4],.mp (mpE dw g.vars),.mp (ja (mpE dw g.shape) g.nodes.length (dw g.nodes.length)),.mp (mpE y8 g.least),.mp (mpE msA g.known),.dead,aZ dw 1 k (g.up++[g.nodes.length])]:=by
 rw[pc];simp only[cH,Gr.bs6,if_neg h,zu,zP,Zf]
def tI(g:Gr)(t:Tm)(r:AV)(bs':List Box):Prop:=r=.int .i64 ((b8 g t).2:Int)/\∃cap',(b8 g t).1.up.length<=cap'/\bs'=(b8 g t).1.bs6 cap'
set_option maxHeartbeats 2000000 in
theorem Nc(t:Tm):t.Vok->∀(g:Gr) (cap:Nat),g.fresh->g.up.length<=cap->g.nodes.length+t.nodes<=4000000000->g.up.length+t.nodes<=4000000000->AM.Sem Tryz.prog 136 [.ptr 0 0,t.avw] (g.bs cap) (tI g t):=by
 induction t using Tm.bK with
 |h k n s l ih=>
 intro hv g cap hfr hcap hn hu;generalize ha:Tm.mk k n s l=t at hv hn hu|-;replace ih:∀x∈t.args,x.Vok->∀(g:Gr) (cap:Nat),g.fresh->g.up.length<=cap->g.nodes.length+x.nodes<=4000000000->g.up.length+x.nodes<=4000000000->AM.Sem Tryz.prog 136 [.ptr 0 0,x.avw] (g.bs cap) (tI g x):=by subst ha;exact ih
 have hnl:Tm.aj t.args+1<=t.nodes:=by subst ha;simp only[Tm.nodes,Tm.args];omega
 clear ha;refine o6 (by simp) ?_
 conv=>whnf
 repeat' (first|(refine gC ?_;first|refine cY ?_|refine cN ?_|refine ak.dec (λhc=>?_) (λhc=>?_))|refine gL (.map ?_)|refine gMp (mA ?_)|(refine gMs ?_;refine mE (λv hc=>?_) (λhc=>?_)))<;>conv=>whnf
 .refine ae.lay [some 0,some 1,some 2,some 3,some 4,none,some 5] oko ?_
  conv=>whnf
  repeat' refine ae.nrm ?_<;>conv=>whnf
  rw[GN (by assumption) (by assumption)];exact⟨rfl,cap,hcap,rfl⟩
 all_goals
  have hnew:t.kind=1->lk g.vars t.num=none:=by intro h;first|assumption|contradiction
  rw[show tI g t=λr bs'=>r=.int .i64 ((b7 g t.args).1.nodes.length:Int)/\∃cap',(b7 g t.args).1.up.length+1<=cap'/\bs'=(cH (b7 g t.args).1 t (b7 g t.args).2).bs6 cap' by funext r bs';rw[tI,GO hnew];simp only[cH,zC,zU]]
  refine ax.by (fb:=true) (λ_ (q:Nat×Nat×Nat)=>GP g t q.1 q.2.1 q.2.2) (λq=>q.1<=t.args.length/\(b7 g (t.args.take q.1)).1.up.length<=q.2.1/\(b7 g (t.args.take q.1)).2.length<=q.2.2) (λq=>t.args.length-q.1) (0,cap,0) ⟨zJ _,by rw[ZL,b7];exact hcap,by rw[ZL,b7];exact zJ _⟩ ?_ ?_
  .dsimp only;rw[GP]
   by_cases h0:0<t.args.length
   .rw [if_pos h0,ZL,b7];dsimp only;refine ah.sj (.bx 7 4) rfl rfl ?_
    conv=>whnf
    refine ah.lay [some 0,some 1,some 2,some 3,some 4,none,some 6,some 7,some 5,some 8] oko ?_
    conv=>whnf
    refine ah.at_ ?_ rfl
    conv=>whnf
    refine And.intro ?_ ?_<;>conv=>whnf
    all_goals repeat' (first|(refine gV ?_;first|refine vE ?_|refine vI ?_)|(refine gX ?_;first|refine xB ?_|(refine BxN.mk ?_ ?_;(focus (simp[AV.norm,AV.ao,cellsOf];done))))|exact True.intro)<;>conv=>whnf
   .have he:t.args=[]:=zL (by omega)
    rw[if_neg h0,he,b7];dsimp only;refine ah.sj (.bx 7 4) rfl rfl ?_
    conv=>whnf
    refine ah.nV DE 7 4 (b:=8) (m:=0) (k:=0) (k0:=0) (l:=[]) rfl rfl rfl (zG _) ?_
    conv=>whnf
    refine ah.lay [some 0,some 1,some 2,some 3,some 4,none,some 6,some 7,some 5,none] oko ?_
    conv=>whnf
    refine ah.at_ ?_ rfl
    conv=>whnf
    refine And.intro ?_ ?_<;>conv=>whnf
    all_goals repeat' (first|(refine gV ?_;first|refine vE ?_|refine vI ?_)|(refine gX ?_;first|refine xB ?_|(refine BxN.mk ?_ ?_;(focus (simp[AV.norm,AV.ao,he];done))))|exact True.intro)<;>conv=>whnf
  .rintro ⟨j,cj,kc⟩ ⟨q1,q2,q3⟩;dsimp only at q1 q2 q3|-
   by_cases hj:j<t.args.length
   .obtain ⟨x,hx⟩:∃x,t.args[j]? =some x:=⟨_,zA hj⟩;have htk:t.args.take (j+1)=t.args.take j++[x]:=by rw[ZC,hx];rfl
    have hs:=C6 g (t.args.take j) x;rw[<-htk] at hs;have hl:=pV g (t.args.take j);have hlx:=kO t.args hx;have hxs:=ih x (zE hx) (hv.kids (zE hx));have hfj:=oa (t.args.take j) hfr;have hkj:=C7 g (t.args.take j);rw[zn,yR (by omega)] at hkj
    have hlj:=gg t.args;rw[GP,if_pos hj];generalize b7 g (t.args.take j)=a at hs hl hkj hfj q2 q3|-;obtain⟨ga,ka⟩:=a;dsimp only at hs hl hkj hfj q2 q3|-
    conv=>whnf
    repeat' (first|refine gC (gD (cI ?_))|refine gI (gT (iA ?_)))<;>conv=>whnf
    refine aa.at [0,1,2,3,4,8] (hxs ga cj hfj q2 (by omega) (by omega)) rfl rfl ?_ oko ?_
    .rintro r bs' ⟨rfl,cp,hcp,rfl⟩;exact⟨rfl,rfl,oko⟩
    rintro r bs' ⟨rfl,cp,hcp,rfl⟩;generalize b8 ga x=b at hs hcp|-;obtain⟨gb,kb⟩:=b;dsimp only at hs hcp|-
    conv=>whnf
    repeat' (first|refine gW (wI ?_)|(refine gP ?_;refine aOn λk hk=>?_)|refine gPr (pS ?_))<;>conv=>whnf
    refine⟨(j+1,cp,k),⟨⟨hj,by dsimp only;rw[hs];exact hcp,by dsimp only;rw[hs];exact hk⟩,by show _-(j+1)<_-j;omega⟩,?_⟩
    dsimp only;rw[GP]
    by_cases hj1:j+1<t.args.length
    .rw [if_pos hj1,hs];dsimp only;refine ah.lay [some 0,some 1,some 2,some 3,some 4,none,some 6,some 7,some 11,some 12] oko ?_
     conv=>whnf
     exact aH
    .rw [zl (by omega)] at hs
     rw[if_neg hj1,hs];dsimp only;refine ah.nV DE 7 4 (b:=12) (l:=ka++[kb]) rfl rfl rfl (zG _) ?_;rw[zz]
     conv=>whnf
     refine ah.lay [some 0,some 1,some 2,some 3,some 4,none,some 6,some 7,some 11,none] oko ?_
     conv=>whnf
     exact aH
   .obtain rfl:j=t.args.length:=by omega
    have hl:=pV g t.args;have hfj:=oa t.args hfr;have hvn:t.kind=1->lk (b7 g t.args).1.vars t.num=none:=λh=>by rw[hv.args h,b7];exact hnew h
    rw[GP,if_neg hj];rw[zl (zG _)] at q2;generalize b7 g t.args=a at hl hfj hvn q2|-;obtain⟨ga,ka⟩:=a;dsimp only at hl hfj hvn q2|-;have hln:=hfj ga.nodes.length (by omega)
    try replace hvn:=hvn (by assumption)
    conv=>whnf
    repeat' (first|(refine gC ?_;(refine gD ?_;first|refine cI ?_|refine cJ ?_))|refine gL (.map ?_)|refine gN (nS ?_)|(refine gP ?_;refine aOn λk hk=>?_)|refine gMp (mA ?_)|refine gPr (pS ?_)|refine gEn (eN ?_)|refine gSt (sN ?_))<;>conv=>whnf
    refine ae.lay [some 0,some 1,some 2,some 3,some 4,none,some 10] oko ?_
    conv=>whnf
    repeat' refine ae.nrm ?_<;>conv=>whnf
    refine⟨rfl,k,by rw[zC] at hk;exact hk,?_⟩
    first
     |rw[Er (by assumption) hvn hln];rfl
     |rw[Es (by assumption)];rfl
end Go.CK
namespace Go.CK
open Go.AM Go.Proofs
theorem Gr.AT{g:Gr}{l:List (Int×(Int×Int))}{r:Int}{m:Int×Int}{cap:Nat}:({g with known:=pt l r m}:Gr).bs cap=[.cells [.sl (.own 5) (g.nodes.map Nd.av),.mpt 1,.bsl 5 g.up.length cap,.mpt 2,.mpt 3,.mpt 4],.mp (mpE dw g.vars),.mp (mpE dw g.shape),.mp (mpE y8 g.least),.mp (ja (mpE msA l) r (msA m)),aZ dw 1 cap g.up]:=by
 rw[pc];rfl
def pf(N:Nat)(M:Gr->Nat->Option (Gr×Option (Int×Int))):Gr->List Nat->Int×Int->Option (Gr×Option (Int×Int))
 |g,[],m=>some (g,some m)
 |g,x::xs,m=>match dg N g.up x with
  |none=>none
  |some (u,r)=>match M {g with up:=u} r with
   |none=>none
   |some (g2,none)=>some (g2,none)
   |some (g2,some c)=>if 0<=c.1/\c.1<=201/\0<=c.2/\c.2<=21/\g2.up.length=g.up.length then pf N M g2 xs (min (m.1+c.1) 201,min (max m.2 (c.2+1)) 21) else none
def e8(N:Nat):Nat->Gr->List Int->Nat->Option (Gr×Option (Int×Int))
 |0,_,_,_=>none
 |f+1,g,busy,r=>match lk g.known r with
  |some m=>some (g,some m)
  |none=>if (r:Int)∈busy then some (g,none) else match lk g.shape r with
   |none=>some ({g with known:=pt g.known r (1,1)},some (1,1))
   |some k=>match g.nodes[k]? with
    |none=>none
    |some d=>if d.kids.length<=4000000000 then match pf N (λg x=>e8 N f g (busy++[(r:Int)]) x) g d.kids (1,1) with
     |none=>none
     |some (g2,none)=>some (g2,none)
     |some (g2,some m)=>some ({g2 with known:=pt g2.known r m},some m)
     else none
def msO:Option (Int×Int)->AV
 |none=>.agg [.int .i64 0,.int .i64 0]
 |some m=>msA m
def Mf(g2:Gr)(m:Option (Int×Int))(cap:Nat)(B:List (Int×Nat))(r:AV)(bs':List Box):Prop:=r=.tup [msO m,.bool m.isSome]/\∃c,bs'=g2.bs cap++[.mq (qB B) c,.cells (msO m).cells]
set_option maxHeartbeats 2000000 in
theorem FA{N:Nat}:∀(f:Nat) {g:Gr} {B:List (Int×Nat)} {c r:Nat} {g2:Gr} {m:Option (Int×Int)} {cap:Nat},e8 N f g (B.map (·.1)) r=some (g2,m)->g.up.length<=cap->AM.Sem Tryz.prog 154 [.ptr 0 0,.int .i64 (r:Int),.mpt 6] (g.bs cap++[.mq (qB B) c]) (Mf g2 m cap B):=by
 intro f
 induction f with
 |zero=>intro g B c r g2 m cap h;cases h
 |succ f ih=>
  intro g B c r g2 m cap h hcap;rw[e8] at h;refine kH (by simp) ?_
  cases hk:lk g.known r with
  |some x=>
   rw[hk] at h;cases h
   conv=>whnf
   repeat' (first|refine gC (cY ?_)|refine gMp (mA ?_)|refine gMs (mEs ?_))<;>conv=>whnf
   refine ae.lay [some 0,some 1,some 2,some 3,some 4,some 5,some 6,some 7] oko ?_
   conv=>whnf
   repeat' refine ae.nrm ?_<;>conv=>whnf
   exact⟨rfl,c,rfl⟩
  |none=>
   rw[hk] at h;simp only at h
   by_cases hb:(r:Int)∈B.map (·.1)
   .rw [if_pos hb] at h;cases h
    conv=>whnf
    repeat' (first|refine gC (cN ?_)|(refine gMp ?_;first|refine mA ?_|refine mAq ?_)|refine gMs (mEn ?_))<;>conv=>whnf
    refine MqN.yes hb ?_
    conv=>whnf
    repeat' refine gC (cY ?_)<;>conv=>whnf
    refine ae.lay [some 0,some 1,some 2,some 3,some 4,some 5,some 6,some 7] oko ?_
    conv=>whnf
    repeat' refine ae.nrm ?_<;>conv=>whnf
    exact⟨rfl,c,rfl⟩
   .rw [if_neg hb] at h
    conv=>whnf
    repeat' (first|refine gC (cN ?_)|(refine gMp ?_;first|refine mA ?_|refine mAq ?_)|refine gMs (mEn ?_))<;>conv=>whnf
    refine MqN.no hb ?_
    cases hs:lk g.shape r with
    |none=>
     rw[hs] at h;cases h
     conv=>whnf
     repeat' (first|refine gC (cN ?_)|refine gN (nS ?_)|(refine gMp ?_;first|refine mA ?_|refine mAq ?_)|refine gMs (mEn ?_))<;>conv=>whnf
     refine iI.lay [some 0,some 1,some 2,some 3,some 4,some 5,some 6,some 7] oko ?_
     conv=>whnf
     refine iI.done (l:=qB (B++[((r:Int),c)])) (c:=xH (qB B) r c) (by first|exact rfl|(show some (Box.mq (rH (qB B) r (.bool true) c) _)=_;rw[sM B _ c hb])) ?_
     rw[wz B _ c hb]
     conv=>whnf
     refine⟨rfl,xH (qB B) r c,?_⟩
     first|exact rfl|(rw[Gr.AT];rfl)
    |some k=>
     rw[hs] at h;simp only at h
     cases hd:g.nodes[k]? with
     |none=>rw[hd] at h;cases h
     |some d=>
      rw[hd] at h;simp only at h
      by_cases hdk:d.kids.length<=4000000000
      rotate_left
      .rw [if_neg hdk] at h;cases h
      rw[if_pos hdk] at h
      cases hL:pf N (λg x=>e8 N f g (B.map (·.1)++[(r:Int)]) x) g d.kids (1,1) with
      |none=>rw[hL] at h;cases h
      |some gm=>
       obtain⟨g3,mo⟩:=gm;rw[hL] at h;have hBk:(B++[((r:Int),c)]).map (·.1)=B.map (·.1)++[(r:Int)]:=by simp
       rw[<-hBk] at hL
       conv=>whnf
       repeat' (first|(refine gC ?_;first|refine cY ?_|refine cN ?_)|refine gL (.map ?_)|refine gN (nS ?_)|refine gI (gM (iE ?_))|(refine gMp ?_;first|refine mA ?_|refine mAq ?_)|refine gMs (mEs ?_))<;>conv=>whnf
       refine ax.by (fb:=true) (λ_ (q:Nat×Gr×(Int×Int)×Nat)=>⟨[(0,.ptr 0 0),(1,.int .i64 (r:Int)),(2,.mpt 6),(6,.ptr 7 0),(10,.ptr 8 0),(54,.sl .no (d.kids.map dw)),(55,.int .i64 (d.kids.length:Int)),(56,.int .i64 (q.1:Int))],q.2.1.bs cap++[.mq (qB (B++[((r:Int),c)])) q.2.2.2,.cells [.int .i64 0,.int .i64 0],.cells [.int .i64 q.2.2.1.1,.int .i64 q.2.2.1.2]],7⟩) (λq=>q.1<=d.kids.length/\pf N (λg x=>e8 N f g ((B++[((r:Int),c)]).map (·.1)) x) q.2.1 (d.kids.drop q.1) q.2.2.1=some (g3,mo)/\q.2.1.up.length=g.up.length/\0<=q.2.2.1.1/\q.2.2.1.1<=201/\0<=q.2.2.1.2/\q.2.2.1.2<=21) (λq=>d.kids.length-q.1) (0,g,(1,1),xH (qB B) r c) ⟨zJ _,hL,rfl,by show (0:Int)<=1;decide,by show (1:Int)<=201;decide,by show (0:Int)<=1;decide,by show (1:Int)<=21;decide⟩ ?_ ?_
       .refine ah.lay [some 0,some 1,some 2,some 3,some 4,some 5,some 6,some 7,some 9] oko ?_
        conv=>whnf
        dsimp only;rw[<-sM B _ c hb];refine ah.at_ ?_ rfl
        conv=>whnf
        refine And.intro ?_ ?_<;>conv=>whnf
        all_goals repeat' (first|(refine gV ?_;first|refine vE ?_|refine vI ?_)|refine gX (xB ?_)|exact True.intro)<;>conv=>whnf
        refine .mk rfl (.mk rfl ?_)
        conv=>whnf
        repeat' (first|refine gX (xB ?_)|exact True.intro)<;>conv=>whnf
       .rintro ⟨j,gj,⟨m1,m2⟩,cj⟩ ⟨q1,q2,q3,q4⟩;dsimp only at q1 q2 q3 q4|-
        by_cases hj:j<d.kids.length
        .obtain ⟨x,hx⟩:∃x,d.kids[j]? =some x:=⟨_,zA hj⟩;rw[zH hj,(zB.1 hx).2,pf] at q2
         cases hr:dg N gj.up x with
         |none=>rw[hr] at q2;cases q2
         |some ur=>
          obtain⟨u,r'⟩:=ur;rw[hr] at q2;simp only at q2;have hul:=dZ hr
          cases hm:e8 N f {gj with up:=u} ((B++[((r:Int),c)]).map (·.1)) r' with
          |none=>rw[hm] at q2;cases q2
          |some gm=>
           obtain⟨g4,m4⟩:=gm;rw[hm] at q2
           conv=>whnf
           repeat' (first|refine gC (gD (cI ?_))|refine gI (gM (iE ?_)))<;>conv=>whnf
           refine aa.ate [0,1,2,3,4,5] (p7 hr (by omega)) rfl rfl ?_
           conv=>whnf
           skip;have hcall:=ih (c:=cj) (cap:=cap) hm (by show u.length<=cap;omega)
           cases m4 with
           |none=>
            simp only at q2;refine aa.at [0,1,2,3,4,5,6] hcall rfl rfl ?_ oko ?_
            .rintro r bs' ⟨rfl,c',rfl⟩;exact⟨rfl,rfl,oko⟩
            rintro rr bs' ⟨hrr,c',rfl⟩;change rr=.tup [.agg [.int .i64 0,.int .i64 0],.bool false] at hrr;subst hrr;cases q2;cases h
            conv=>whnf
            repeat' (refine gC ?_;first|refine cN ?_|refine .not ?_)<;>conv=>whnf
            refine iI.lay [some 0,some 1,some 2,some 3,some 4,some 5,some 6,some 7] oko ?_
            conv=>whnf
            refine iI.done (l:=qB (B++[((r:Int),c)])) (c:=c') (by first|exact rfl|(show some (Box.mq (rH (qB B) r (.bool true) c) _)=_;rw[sM B _ c hb])) ?_
            rw[wz B _ c hb]
            conv=>whnf
            refine⟨rfl,c',?_⟩
            first|exact rfl|(rw[Gr.AT];rfl)
           |some m4=>
            simp only at q2
            by_cases hcc:0<=m4.1/\m4.1<=201/\0<=m4.2/\m4.2<=21/\g4.up.length=gj.up.length
            rotate_left
            .rw [if_neg hcc] at q2;cases q2
            rw[if_pos hcc] at q2;obtain⟨c1,c2,c3,c4,c5⟩:=hcc;refine aa.at [0,1,2,3,4,5,6] hcall rfl rfl ?_ oko ?_
            .rintro r bs' ⟨rfl,c',rfl⟩;exact⟨rfl,rfl,oko⟩
            rintro rr bs' ⟨hrr,c',rfl⟩;change rr=.tup [.agg [.int .i64 m4.1,.int .i64 m4.2],.bool true] at hrr;subst hrr
            conv=>whnf
            repeat' (first|(refine gC ?_;first|refine cY ?_|refine .not ?_)|refine gW (wI ?_))<;>conv=>whnf
            refine⟨(j+1,g4,(min (m1+m4.1) 201,min (max m2 (m4.2+1)) 21),c'),⟨⟨hj,q2,by show g4.up.length=_;omega,by show 0<=min (m1+m4.1) 201;omega,by show min (m1+m4.1) 201<=201;omega,by show 0<=min (max m2 (m4.2+1)) 21;omega,by show min (max m2 (m4.2+1)) 21<=21;omega⟩,by show _-(j+1)<_-j;omega⟩,?_⟩
            dsimp only;refine ah.lay [some 0,some 1,some 2,some 3,some 4,some 5,some 6,some 7,some 8] oko ?_
            conv=>whnf
            exact aH
        .obtain rfl:j=d.kids.length:=by omega
         rw[zj,pf] at q2;cases q2;cases h
         conv=>whnf
         repeat' (first|refine gC (gD (cJ ?_))|refine gN (nS ?_)|refine gMp (mA ?_))<;>conv=>whnf
         refine iI.lay [some 0,some 1,some 2,some 3,some 4,some 5,some 6,some 7] oko ?_
         conv=>whnf
         refine iI.done (l:=qB (B++[((r:Int),c)])) (c:=cj) (by first|exact rfl|(show some (Box.mq (rH (qB B) r (.bool true) c) _)=_;rw[sM B _ c hb])) ?_
         rw[wz B _ c hb]
         conv=>whnf
         refine⟨rfl,cj,?_⟩
         first|exact rfl|(rw[Gr.AT];rfl)
end Go.CK
