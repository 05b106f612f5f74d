/-
  Texts of this aZ joined (wip/gen/bundle.py),those declarations only that are needed:UrI UrJ. By an AI agent.
-/
import Derived.Test.YtpihbplamelcnaaGreatBbf
set_option linter.unusedSimpArgs false
set_option linter.unusedVariables false
set_option maxRecDepth 100000
namespace Go.CK
open Go.AM Go.Proofs
theorem eW:Plain msA 2:=⟨by omega,λ_=>rfl,λx c h=>by simp[msA,AV.cells] at h;rcases h with rfl|rfl<;>rfl,λx c h=>by simp[msA,AV.cells] at h;rcases h with rfl|rfl<;>rfl⟩
def uS(g:Rg)(i:Nat):Nat:=(List.range i).countP λk=>decide (g.cls[k]? =some k)
theorem Iz(g:Rg)(i:Nat):uS g i<=i:=by
 unfold uS;have:=yB (p:=λk=>decide (g.cls[k]? =some k)) (l:=List.range i);rw[Zw] at this;exact this
theorem LI{g:Rg}{i:Nat}(h:g.cls[i]? =some i):uS g (i+1)=uS g i+1:=by
 unfold uS;rw[List.range_succ,List.countP_append,List.countP_singleton,decide_eq_true h];rfl
theorem Na{g:Rg}{i c:Nat}(h:g.cls[i]? =some c)(hc:¬c=i):uS g (i+1)=uS g i:=by
 unfold uS;rw[List.range_succ,List.countP_append,List.countP_singleton,decide_eq_false (by rw[h];simpa using hc)];rfl
theorem vz{g:Rg}{m:List (Int×Int)}{left:Int}:∀{n:Nat} {r:List (Int×Int)×Int},kC g n m left=some r->∀i,i<=n->∃r',kC g i m left=some r'
 |0,r,h,i,hi=>by
  obtain rfl:i=0:=by omega
  exact⟨_,h⟩
 |n+1,r,h,i,hi=>by
  by_cases e:i=n+1
  .subst e;exact⟨_,h⟩
  .rw [kC] at h;split at h
   .cases h
   .rename_i h1;exact vz h1 i (by omega)
def H4(g:Rg)(r:Option (List (Int×Int)))(cap:Nat)(q:AV)(bs':List Box):Prop:=q=.tup (match r with
 |some m=>[.sl .no (m.map msA),.bool true]
 |none=>[.sl .no [],.bool false])/\bs'=g.bs cap
set_option maxHeartbeats 8000000 in
theorem GB{g:Rg}{cap:Nat}(hcap:g.cls.length<=cap)(hk:RK g){r:Option (List (Int×Int))}(h:Er g=some r):AM.Sem Tryz.prog 161 [.ptr 0 0] (g.bs cap) (H4 g r cap):=by
 have hl:=hk.len;have hn:=hk.lim;unfold Er at h;refine ed (by simp) ?_
 conv=>whnf
 repeat' refine gL (.map ?_)<;>conv=>whnf
 refine .row eW (0,0) (by omega) ?_
 conv=>whnf
 skip;simp only[Zu];refine aD.by (fb:=true) (λ_ (i:Nat)=>⟨[(0,.ptr 0 0),(4,.bsl 2 g.nodes.length g.nodes.length),(5,.int .i64 (uS g i:Int)),(6,.int .i64 (i:Int))],rbs g.nodes g.cls cap++[aS msA 2 g.nodes.length (List.replicate g.nodes.length (0,0))],2⟩) (λi=>i<=g.nodes.length) (λi=>g.nodes.length-i) 0 (zJ _) ?_ ?_
 .rw [show uS g 0=0 from rfl];exact aH
 .rintro i q1
  by_cases hi:i<g.nodes.length
  .obtain ⟨c,hc⟩:∃c,g.cls[i]? =some c:=⟨_,zA (by omega)⟩
   have hci:=Iz g i
   by_cases he:c=i
   .have he':(c:Int)=(i:Int):=by omega
    have h1:=LI (he▸hc)
    conv=>whnf
    repeat' (first|refine gC (gD (cI ?_))|refine gW (wI ?_)|refine gL (.map ?_)|refine gN (nS ?_)|(refine gE ?_;refine eLn ?_))<;>conv=>whnf
    refine⟨i+1,⟨hi,by omega⟩,?_⟩
    rw[h1];exact aH
   .have he':¬(c:Int)=(i:Int):=by omega
    have h1:=Na hc he
    conv=>whnf
    repeat' (first|(refine gC ?_;(refine gD ?_;first|refine cI ?_|refine cJ ?_))|refine gW (wI ?_)|refine gL (.map ?_)|refine gN (nS ?_)|(refine gE ?_;refine eLn ?_))<;>conv=>whnf
    refine⟨i+1,⟨hi,by omega⟩,?_⟩
    rw[h1];exact aH
  .obtain rfl:i=g.nodes.length:=by omega
   have hcr:uS g g.nodes.length=mb g:=by unfold uS mb;rw[hl]
   have hcl:=Iz g g.nodes.length;rw[hcr] at hcl|-
   conv=>whnf
   repeat' (first|refine gC (gD (cJ ?_))|refine gL (.map ?_))<;>conv=>whnf
   refine aD.by (fb:=true) (λ_ (q:Nat×List (Int×Int)×Int)=>⟨[(0,.ptr 0 0),(4,.bsl 2 g.nodes.length g.nodes.length),(5,.int .i64 q.2.2)],rbs g.nodes g.cls cap++[aS msA 2 g.nodes.length q.2.1],2⟩) (λq=>wP g q.1 q.2.1 q.2.2=some r/\q.2.1.length=g.nodes.length/\0<=q.2.2/\q.2.2<=4000000000) (λq=>q.1) (g.nodes.length+1,List.replicate g.nodes.length (0,0),(mb g:Int)) ⟨h,zf ..,by show (0:Int)<=mb g;omega,by show (mb g:Int)<=4000000000;omega⟩ ?_ ?_
   .exact aH
   .rintro ⟨f,m,left⟩ ⟨h1,h2,h3,h4⟩;dsimp only at h1 h2 h3 h4|-
    cases f with
    |zero=>cases h1
    |succ f=>
     rw[wP] at h1
     by_cases hp:0<left
     .rw [if_pos hp] at h1
      cases hR:kC g g.nodes.length m left with
      |none=>rw[hR] at h1;cases h1
      |some ml=>
      obtain⟨m1,l1⟩:=ml;rw[hR] at h1;simp only at h1
      conv=>whnf
      repeat' refine gC (gD (cI ?_))<;>conv=>whnf
      refine aD.by (fb:=true) (λ_ (q:Nat×List (Int×Int)×Int)=>⟨[(0,.ptr 0 0),(4,.bsl 2 g.nodes.length g.nodes.length),(5,.int .i64 q.2.2),(7,.int .i64 left),(8,.int .i64 (q.1:Int))],rbs g.nodes g.cls cap++[aS msA 2 g.nodes.length q.2.1],2⟩) (λq=>q.1<=g.nodes.length/\kC g q.1 m left=some (q.2.1,q.2.2)/\q.2.1.length=g.nodes.length/\0<=q.2.2/\q.2.2<=4000000000) (λq=>g.nodes.length-q.1) (0,m,left) ⟨zJ _,rfl,h2,h3,h4⟩ ?_ ?_
      .exact aH
      .rintro ⟨i,m2,l2⟩ ⟨q1,q2,q3,q4,q5⟩;dsimp only at q1 q2 q3 q4 q5|-
       by_cases hi:i<g.nodes.length
       .obtain ⟨⟨m3,l3⟩,hr3⟩:=vz hR (i+1) (by omega)
        have hst:=hr3;rw[kC,q2] at hst;simp only at hst;rw[Hx] at hst
        cases hc:g.cls[i]? with
        |none=>rw[hc] at hst;cases hst
        |some c=>
        rw[hc] at hst;simp only at hst
        cases hy:m2[c]? with
        |none=>rw[hy] at hst;cases hst
        |some y=>
        rw[hy] at hst;simp only at hst;have hclt:=(zB.1 hy).1
        by_cases hpos:0<y.1
        .rw [if_pos hpos] at hst;cases hst
         conv=>whnf
         repeat' (first|refine gC (gD (cI ?_))|refine gL (.map ?_)|refine gN (nS ?_)|(refine gE ?_;refine eLn ?_))<;>conv=>whnf
         refine ElN.cell eW rfl hy rfl ?_
         conv=>whnf
         repeat' (first|refine gC (gD (cI ?_))|refine gW (wI ?_))<;>conv=>whnf
         refine⟨(i+1,m2,l2),⟨⟨hi,hr3,q3,q4,q5⟩,by show _-(i+1)<_-i;omega⟩,?_⟩
         exact aH
        .rw [if_neg hpos] at hst;have hs:=rF (c:=c) hcap hl hn
         conv=>whnf
         repeat' (first|refine gC (gD (cI ?_))|refine gL (.map ?_)|refine gN (nS ?_)|(refine gE ?_;refine eLn ?_))<;>conv=>whnf
         refine ElN.cell eW rfl hy rfl ?_
         conv=>whnf
         repeat' refine gC (gD (cJ ?_))<;>conv=>whnf
         refine aa.ate [0,1] hs rfl rfl ?_
         cases hsc:g.shape c with
         |none=>
          rw[show oiN none=-1 from rfl];simp only[oE,hsc,Aa] at hst
          conv=>whnf
          skip;refine aD.by (fb:=true) (λ_ (u:Unit)=>⟨[(0,.ptr 0 0),(4,.bsl 2 g.nodes.length g.nodes.length),(5,.int .i64 l2),(7,.int .i64 left),(8,.int .i64 (i:Int)),(9,.int .i64 (c:Int)),(10,.int .i64 (-1)),(11,.ptr 3 0),(12,.bool true),(13,.int .i64 0)],rbs g.nodes g.cls cap++[aS msA 2 g.nodes.length m2,.cells [.int .i64 1,.int .i64 1]],2⟩) (λ_=>True) (λ_=>0) () trivial ?_ ?_
          .exact aH
          .rintro _ _
           try rw[if_pos (rfl:true=true)] at hst
           by_cases hl2:0<l2
           rotate_left
           .rw [if_neg hl2] at hst;cases hst
           rw[if_pos hl2] at hst;cases hst
           conv=>whnf
           repeat' (first|(refine gC ?_;first|refine cY ?_|refine cN ?_|refine gD (cJ ?_))|refine gN (nS ?_))<;>conv=>whnf
           refine EsN.elem eW (λx=>rfl) (x:=y) (y:=(1,1)) (l:=m2) rfl hy rfl ?_
           conv=>whnf
           repeat' refine gW (wI ?_)<;>conv=>whnf
           refine⟨(i+1,m2.set c (1,1),l2-1),⟨⟨hi,hr3,by rw[zm];exact q3,by show 0<=l2-1;omega,by show l2-1<=4000000000;omega⟩,by show _-(i+1)<_-i;omega⟩,?_⟩
           refine ah.lay [some 0,some 1,some 2] oko ?_
           conv=>whnf
           refine ah.at_ ?_ rfl
           conv=>whnf
           refine And.intro ?_ ?_<;>conv=>whnf
           all_goals repeat' (first|(refine gV ?_;first|refine vE ?_|refine vI ?_)|(refine gX ?_;first|refine xB ?_|(refine BxN.mk ?_ ?_;(focus (simp[AV.norm,AV.ax,];done))))|exact True.intro)<;>conv=>whnf
         |some k=>
          rw[show oiN (some k)=(k:Int) from rfl]
          cases hx:g.nodes[k]? with
          |none=>simp only[oE,hsc,hx] at hst;cases hst
          |some x=>
          simp only[oE,hsc,hx] at hst;have h6:=hk.six _ _ hx
          cases hm:Aa g m2 x.kids (1,1) true with
          |none=>rw[hm] at hst;cases hst
          |some xd=>
          obtain⟨x',d'⟩:=xd;rw[hm] at hst;simp only at hst
          conv=>whnf
          skip;refine aD.by (fb:=true) (λ_ (q:Nat×(Int×Int)×Bool)=>⟨[(0,.ptr 0 0),(4,.bsl 2 g.nodes.length g.nodes.length),(5,.int .i64 l2),(7,.int .i64 left),(8,.int .i64 (i:Int)),(9,.int .i64 (c:Int)),(10,.int .i64 (k:Int)),(11,.ptr 3 0),(12,.bool q.2.2),(13,.int .i64 (q.1:Int))],rbs g.nodes g.cls cap++[aS msA 2 g.nodes.length m2,.cells [.int .i64 q.2.1.1,.int .i64 q.2.1.2]],2⟩) (λq=>q.1<=x.kids.length/\Aa g m2 (x.kids.drop q.1) q.2.1 q.2.2=some (x',d')) (λq=>x.kids.length-q.1) (0,(1,1),true) ⟨zJ _,hm⟩ ?_ ?_
          .exact aH
          .rintro ⟨j,⟨x1,x2⟩,d⟩ ⟨w1,w2⟩;dsimp only at w1 w2|-
           by_cases hj:j<x.kids.length
           .obtain ⟨w,hw⟩:∃w,x.kids[j]? =some w:=⟨_,zA hj⟩;rw[zH hj,(zB.1 hw).2,Aa] at w2
            cases hcw:g.cls[w]? with
            |none=>rw[hcw] at w2;cases w2
            |some s=>
            rw[hcw] at w2;simp only at w2
            cases hys:m2[s]? with
            |none=>rw[hys] at w2;cases w2
            |some y2=>
            rw[hys] at w2;simp only at w2
            by_cases hb:o7 (x1,x2)/\o7 y2
            rotate_left
            .rw [if_neg hb] at w2;cases w2
            rw[if_pos hb] at w2;obtain⟨⟨b1,b2,b3,b4⟩,b5,b6,b7,b8⟩:=hb;dsimp only at b1 b2 b3 b4;have hwl:=(zB.1 hcw).1;have hsl:=(zB.1 hys).1
            cases d with
            |true=>
             rw[za] at w2
             conv=>whnf
             repeat' (first|refine gC (gD (cI ?_))|refine gL (.map ?_)|refine gN (nS ?_)|refine gI (gM (iE ?_))|(refine gE ?_;refine eLn ?_))<;>conv=>whnf
             refine ElN.elem eW rfl hys ?_
             conv=>whnf
             repeat' (first|refine gC (cY ?_)|refine gW (wI ?_))<;>conv=>whnf
             refine⟨(j+1,xU (x1,x2) y2,decide (0<y2.1)),⟨⟨hj,w2⟩,by show _-(j+1)<_-j;omega⟩,?_⟩
             refine ah.lay [some 0,some 1,some 2,some 3] oko ?_
             conv=>whnf
             refine ah.at_ ?_ rfl
             conv=>whnf
             refine And.intro ?_ ?_<;>conv=>whnf
             all_goals repeat' (first|(refine gV ?_;first|refine vE ?_|refine vI ?_)|(refine gX ?_;first|refine xB ?_|(refine BxN.mk ?_ ?_;(focus (simp[AV.norm,AV.ax,xU];done))))|exact True.intro)<;>conv=>whnf
            |false=>
             conv=>whnf
             repeat' (first|refine gC (gD (cI ?_))|refine gL (.map ?_)|refine gN (nS ?_)|refine gI (gM (iE ?_))|(refine gE ?_;refine eLn ?_))<;>conv=>whnf
             refine ElN.elem eW rfl hys ?_
             conv=>whnf
             repeat' (first|refine gC (cN ?_)|refine gW (wI ?_))<;>conv=>whnf
             refine⟨(j+1,xU (x1,x2) y2,false),⟨⟨hj,w2⟩,by show _-(j+1)<_-j;omega⟩,?_⟩
             refine ah.lay [some 0,some 1,some 2,some 3] oko ?_
             conv=>whnf
             refine ah.at_ ?_ rfl
             conv=>whnf
             refine And.intro ?_ ?_<;>conv=>whnf
             all_goals repeat' (first|(refine gV ?_;first|refine vE ?_|refine vI ?_)|(refine gX ?_;first|refine xB ?_|(refine BxN.mk ?_ ?_;(focus (simp[AV.norm,AV.ax,xU];done))))|exact True.intro)<;>conv=>whnf
           .obtain rfl:j=x.kids.length:=by omega
            rw[zj,Aa] at w2;cases w2
            cases d' with
            |true=>
             try rw[if_pos (rfl:true=true)] at hst
             by_cases hl2:0<l2
             rotate_left
             .rw [if_neg hl2] at hst;cases hst
             rw[if_pos hl2] at hst;cases hst
             conv=>whnf
             repeat' (first|(refine gC ?_;first|refine cY ?_|(refine gD ?_;first|refine cI ?_|refine cJ ?_))|refine gL (.map ?_)|refine gN (nS ?_)|refine gI (gM (iE ?_)))<;>conv=>whnf
             refine EsN.elem eW (λx=>rfl) (x:=y) (y:=(x1,x2)) (l:=m2) rfl hy rfl ?_
             conv=>whnf
             repeat' refine gW (wI ?_)<;>conv=>whnf
             refine⟨(i+1,m2.set c (x1,x2),l2-1),⟨⟨hi,hr3,by rw[zm];exact q3,by show 0<=l2-1;omega,by show l2-1<=4000000000;omega⟩,by show _-(i+1)<_-i;omega⟩,?_⟩
             refine ah.lay [some 0,some 1,some 2] oko ?_
             conv=>whnf
             refine ah.at_ ?_ rfl
             conv=>whnf
             refine And.intro ?_ ?_<;>conv=>whnf
             all_goals repeat' (first|(refine gV ?_;first|refine vE ?_|refine vI ?_)|(refine gX ?_;first|refine xB ?_|(refine BxN.mk ?_ ?_;(focus (simp[AV.norm,AV.ax,];done))))|exact True.intro)<;>conv=>whnf
            |false=>
             rw[if_neg Za] at hst;cases hst
             conv=>whnf
             repeat' (first|(refine gC ?_;first|refine cN ?_|(refine gD ?_;first|refine cI ?_|refine cJ ?_))|refine gW (wI ?_)|refine gL (.map ?_)|refine gI (gM (iE ?_)))<;>conv=>whnf
             refine⟨(i+1,m2,l2),⟨⟨hi,hr3,q3,q4,q5⟩,by show _-(i+1)<_-i;omega⟩,?_⟩
             refine ah.lay [some 0,some 1,some 2] oko ?_
             conv=>whnf
             exact aH
       .obtain rfl:i=g.nodes.length:=by omega
        rw[hR] at q2;cases q2
        by_cases he:l1=left
        .rw [if_pos he] at h1;cases h1
         conv=>whnf
         repeat' (first|(refine gC ?_;(refine gD ?_;first|refine cI ?_|refine cJ ?_))|refine gL (.map ?_))<;>conv=>whnf
         refine ae.lay [some 0,some 1] oko ?_
         conv=>whnf
         repeat' refine ae.nrm ?_<;>conv=>whnf
         exact⟨rfl,rfl⟩
        .rw [if_neg he] at h1
         conv=>whnf
         repeat' (first|refine gC (gD (cJ ?_))|refine gL (.map ?_))<;>conv=>whnf
         refine⟨(f,m1,l1),⟨⟨h1,q3,q4,q5⟩,yD _⟩,?_⟩;exact aH
     .rw [if_neg hp] at h1;cases h1
      conv=>whnf
      repeat' refine gC (gD (cJ ?_))<;>conv=>whnf
      refine ae.wk (aE.froze eW _ 2 (b:=2) (l:=m) rfl rfl h2.symm) ?_
      conv=>whnf
      refine ae.lay [some 0,some 1] oko ?_
      conv=>whnf
      repeat' refine ae.nrm ?_<;>conv=>whnf
      exact⟨rfl,rfl⟩
end Go.CK
namespace Go.CK
open Go.AM Go.Proofs
def F4(f:Nat)(a b:List Tm):Option (List Bnd×Int):=match ym f rg0 (a.zip b) with
 |none=>none
 |some (_,false)=>some ([],13)
 |some (g,true)=>Kp g
theorem RW.rk{g:Rg}(h:RW g)(hl:g.nodes.length<=4000000000):RK g:=⟨h.len,hl,λi x hx=>sn h.nds hx,λi x hx h1=>(jO (h.nds.frm i x hx) h1).1⟩
theorem qx{g:Rg}{m:List (Int×Int)}:∀{n:Nat} {r:Option (List Bnd)},jE g m n=some r->∀i,i<=n->∃r',jE g m i=some r'/\(r'=none->r=none)
 |0,r,h,i,hi=>by
  obtain rfl:i=0:=by omega
  exact⟨_,h,id⟩
 |n+1,r,h,i,hi=>by
  by_cases e:i=n+1
  .subst e;exact⟨_,h,id⟩
  .rw [jE] at h;split at h
   .cases h
   .rename_i h1;cases h;obtain⟨r',h2,_⟩:=qx h1 i (by omega)
    exact⟨r',h2,λ_=>rfl⟩
   .rename_i out h1;obtain⟨r',h2,h3⟩:=qx h1 i (by omega)
    refine⟨r',h2,λe=>?_⟩;have:=h3 e;cases this
theorem gJ{x:Bnd}{l:List Bnd}:(nh x l).length=l.length+1:=by
 have:=CL x.v l;unfold nh;rw[zC,zX,zn,Zh];omega
theorem ko{v:Int}{t:Tm}{l:List Bnd}:(nh ⟨v,t⟩ l).map Bnd.av=(l.map Bnd.av).take (gz v l)++[Bnd.av ⟨v,t⟩]++(l.map Bnd.av).drop (gz v l):=by
 unfold nh;rw[zu,zP,List.map_take,List.map_drop,zg];rfl
theorem tV{α β:Type}(f:α->β)(l:List α):(l.map f).take l.length=l.map f:=by rw[<-List.map_take,zz]
set_option maxHeartbeats 8000000 in
theorem Mq{f:Nat}{a b:List Tm}{out:List Bnd}{e:Int}(h:F4 f a b=some (out,e))(hl:a.length=b.length)(hfa:∀x∈a,x.form=true)(hfb:∀x∈b,x.form=true)(hN:Tm.aj a+Tm.aj b<=300000000)(hf:300000000<f):Fun Tryz.prog 142 [.sl .no (a.map Tm.av),.sl .no (b.map Tm.av)] (.tup [.sl .no (out.map Bnd.av),.int .i64 e]):=by
 have hla:=bO a;have hlb:=bO b;unfold F4 at h
 cases hR:ym f rg0 (a.zip b) with
 |none=>rw[hR] at h;cases h
 |some gb=>
  obtain⟨g,br⟩:=gb;rw[hR] at h;refine Fun.of (kU (by simp) ?_) rfl rfl
  conv=>whnf
  skip;refine aD.by (fb:=true) (λ_ (q:Nat×Rg×Nat)=>⟨[(0,.sl .no (a.map Tm.av)),(1,.sl .no (b.map Tm.av)),(6,.ptr 0 0),(7,.int .i64 (q.1:Int))],rbs q.2.1.nodes q.2.1.cls q.2.2,0⟩) (λq=>q.1<=a.length/\ym f q.2.1 ((a.zip b).drop q.1)=some (g,br)/\RW q.2.1/\aK q.2.1.nodes q.2.1.R []/\q.2.1.cls.length<=q.2.2/\q.2.1.nodes.length<=Tm.aj (a.take q.1)+Tm.aj (b.take q.1)) (λq=>a.length-q.1) (0,rg0,0) ⟨zJ _,hR,KG,vJ,zG _,zJ _⟩ ?_ ?_
  .refine ah.Hc 0 0 4 (l:=[]) rfl (λy hy=>by cases hy) ?_
   conv=>whnf
   refine ah.dF (.bx 0 1) rfl rfl ?_
   conv=>whnf
   refine ah.lay [some 0,some 1] oko ?_
   conv=>whnf
   refine ah.at_ ?_ rfl
   conv=>whnf
   refine And.intro ?_ ?_<;>conv=>whnf
   all_goals repeat' (first|(refine gV ?_;first|refine vE ?_|refine vI ?_)|(refine gX ?_;(refine BxN.mk ?_ ?_;(focus (simp[AV.norm,AV.ax,cellsOf,rg0];done))))|exact True.intro)<;>conv=>whnf
  .rintro ⟨j,gj,cap⟩ ⟨q1,q2,q3,q4,hcap,q6⟩;dsimp only at q1 q2 q3 q4 hcap q6|-
   by_cases hj:j<a.length
   .obtain ⟨x,hx⟩:∃x,a[j]? =some x:=⟨_,zA hj⟩;obtain⟨y,hy⟩:∃y,b[j]? =some y:=⟨_,zA (by omega)⟩
    have hz:(a.zip b)[j]? =some (x,y):=ZU.2 ⟨hx,hy⟩;have hzl:j<(a.zip b).length:=(zB.1 hz).1;rw[zH hzl,(zB.1 hz).2,ym] at q2;have hxr:=hfa x (zE hx);have hyr:=hfb y (zE hy);have hta:=bU a hx;have htb:=bU b hy;have htk:a.take (j+1)=a.take j++[x]:=by rw[ZC,hx];rfl
    have htk2:b.take (j+1)=b.take j++[y]:=by rw[ZC,hy];rfl
    have hjl:=q3.len;have hjb:j<b.length:=by omega
    obtain⟨a1,n1,a2,a3⟩:=oT x q3 q4 hxr;have l1:=oS gj x;obtain⟨b1,n2,b2,b3⟩:=oT y a1.gw a1.cl hyr;have l2:=oS (bG gj x).1 y;have hx2:=b1.old _ _ a2;have hcls:=ID (bG (bG gj x).1 y).1;have hlen2:=b1.gw.len;have hlen1:=a1.gw.len;have hwx:=(zB.1 hx2).1;have hwy:=(zB.1 b2).1
    obtain⟨g3,b3',e1,e2,e3,e4,e5⟩:=tB f (bG (bG gj x).1 y).1 [] (bG gj x).2 (bG (bG gj x).1 y).2 b1.gw (oW b1.cl) (λp hp=>by
     rw[zp] at hp;subst hp;exact⟨hwx,hwy⟩) (by omega)
    rw[e1] at q2;have hrk2:=b1.gw.rk (by omega)
    have hadd:=Ip x (oM x hxr) gj cap hcap (by omega) (by omega)
    have hadd2:=λcp hcp=>Ip y (oM y hyr) (bG gj x).1 cp hcp (by omega) (by omega)
    have hjo:=λcp hcp=>OC (cap:=cp) f e1 hcp hrk2.len hrk2.lim hrk2.six;unfold np at hadd hadd2;clear a2 a3 b2 b3 hx2 e5 hrk2 hcls hwx hwy;generalize bG gj x=gx at*;obtain⟨g1,k1⟩:=gx;dsimp only at*;generalize bG g1 y=gy at*;obtain⟨g2,k2⟩:=gy;dsimp only at*
    conv=>whnf
    repeat' (first|refine gC (gD (cI ?_))|refine gL (.map ?_)|refine gI (gT (iA ?_)))<;>conv=>whnf
    refine aa.at [0,1] hadd rfl rfl ?_ oko ?_
    .rintro r bs' ⟨rfl,cp,hcp,rfl⟩;exact⟨rfl,rfl,oko⟩
    rintro r bs' ⟨rfl,cp,hcp,rfl⟩
    conv=>whnf
    repeat' refine gI (gT (iA ?_))<;>conv=>whnf
    refine aa.at [0,2] (hadd2 cp hcp) rfl rfl ?_ oko ?_
    .rintro r bs' ⟨rfl,cp,hcp,rfl⟩;exact⟨rfl,rfl,oko⟩
    rintro r bs' ⟨rfl,cp2,hcp2,rfl⟩
    conv=>whnf
    skip;refine aa.ate [0,3] (hjo cp2 hcp2) rfl rfl ?_
    cases b3' with
    |false=>
     cases q2;cases h
     conv=>whnf
     repeat' (refine gC ?_;first|refine cN ?_|refine .not ?_)<;>conv=>whnf
     refine ae.lay [] oko ?_
     conv=>whnf
     repeat' refine ae.nrm ?_<;>conv=>whnf
     all_goals rfl
    |true=>
     simp only at q2;obtain⟨w1,w2,_,_⟩:=e4 rfl
     conv=>whnf
     repeat' (first|(refine gC ?_;first|refine cY ?_|refine .not ?_)|refine gW (wI ?_))<;>conv=>whnf
     refine⟨(j+1,g3,cp2),⟨⟨hj,q2,w1,w2,by show g3.cls.length<=cp2;omega,?_⟩,by show _-(j+1)<_-j;omega⟩,?_⟩
     .show g3.nodes.length<=Tm.aj (a.take (j+1))+Tm.aj (b.take (j+1));rw[e2,htk,htk2,gq,gq];omega
     dsimp only;refine ah.lay [some 0,some 3] oko ?_
     conv=>whnf
     exact aH
   .obtain rfl:j=a.length:=by omega
    rw[Zm (by rw[yV];omega),ym] at q2
    cases q2;simp only at h;rw[zl (zG _),zl (by omega)] at q6
    have hrk:=q3.rk (by omega)
    have hll:=q3.len;unfold Kp at h
    cases hme:Er g with
    |none=>rw[hme] at h;cases h
    |some mo=>
    rw[hme] at h;have hmk:=GB hcap hrk hme;unfold H4 at hmk
    cases mo with
    |none=>
     cases h
     conv=>whnf
     repeat' (first|refine gF (aa.to (hmk) ?_)|(refine gC ?_;first|refine cN ?_|refine .not ?_|refine gD (cJ ?_))|refine gL (.map ?_))<;>conv=>whnf
     refine ae.lay [] oko ?_
     conv=>whnf
     repeat' refine ae.nrm ?_<;>conv=>whnf
     all_goals rfl
    |some m=>
    simp only at h
    cases hS:jE g m g.nodes.length with
    |none=>rw[hS] at h;cases h
    |some so=>
    rw[hS] at h
    conv=>whnf
    repeat' (first|refine gF (aa.to (hmk) ?_)|(refine gC ?_;first|refine cY ?_|refine .not ?_|refine gD (cJ ?_))|refine gL (.map ?_))<;>conv=>whnf
    refine aD.by (fb:=true) (λ_ (q:Nat×List Bnd)=>⟨[(6,.ptr 0 0),(10,.sl .no (m.map msA)),(12,.sl .no (q.2.map Bnd.av)),(13,.int .i64 (q.1:Int))],rbs g.nodes g.cls cap,0⟩) (λq=>q.1<=g.nodes.length/\jE g m q.1=some (some q.2)/\q.2.length<=q.1) (λq=>g.nodes.length-q.1) (0,[]) ⟨zJ _,rfl,zG _⟩ ?_ ?_
    .refine ah.at_ ?_ rfl
     conv=>whnf
     refine And.intro ?_ ?_<;>conv=>whnf
     all_goals repeat' (first|(refine gV ?_;first|refine vE ?_|refine vI ?_|(refine WkN.norm ?_ ?_;(focus (simp[AV.norm,AV.ax,];done))))|refine gX (xB ?_)|exact True.intro)<;>conv=>whnf
    .rintro ⟨i,out'⟩ ⟨r1,r2,r3⟩;dsimp only at r1 r2 r3|-
     by_cases hi:i<g.nodes.length
     .obtain ⟨r',hr3,hnone⟩:=qx hS (i+1) (by omega)
      have hst:=hr3;rw[jE,r2] at hst;simp only at hst;rw[KY] at hst
      cases hx:g.nodes[i]? with
      |none=>rw[hx] at hst;cases hst
      |some x=>
      cases hc:g.cls[i]? with
      |none=>rw[hx,hc] at hst;cases hst
      |some c=>
      rw[hx,hc] at hst;simp only at hst;have hs:=rF (c:=c) hcap hrk.len hrk.lim;have hle:=H7 (c:=c) hcap hrk.len hrk.lim hrk.pos
      by_cases hk1:x.t.kind=1
      rotate_left
      .rw [if_pos (.inl hk1)] at hst;cases hst
       conv=>whnf
       repeat' (first|(refine gC ?_;first|refine cY ?_|refine .not ?_|(refine gD ?_;first|refine cI ?_|refine cJ ?_))|refine gW (wI ?_)|refine gL (.map ?_)|refine gN (nS ?_)|refine gI (gM (iE ?_))|(refine gE ?_;refine eLn ?_)|refine gPr (pE ?_))<;>conv=>whnf
       refine⟨(i+1,out'),⟨⟨hi,hr3,by show out'.length<=i+1;omega⟩,by show _-(i+1)<_-i;omega⟩,?_⟩
       exact aH
      .cases hsc:g.shape c with
       |none=>
        rw[hsc,show oiN none=-1 from rfl] at hs
        by_cases hlv:oiI (g.le c)=x.t.num
        .rw [if_pos (.inr ⟨hsc,hlv⟩)] at hst
         conv=>whnf
         repeat' (first|(refine gC ?_;first|refine .not ?_|refine gD (cI ?_))|refine gL (.map ?_)|refine gN (nS ?_)|refine gI (gM (iE ?_))|(refine gE ?_;refine eLn ?_))<;>conv=>whnf
         refine aa.ate [0,1] hs rfl rfl ?_
         conv=>whnf
         repeat' (first|(refine gC ?_;first|refine .not ?_|refine gD (cI ?_))|refine gI (gM (iE ?_)))<;>conv=>whnf
         refine aa.ate [0,1] hle rfl rfl ?_;cases hst
         conv=>whnf
         repeat' (first|(refine gC ?_;first|refine .not ?_|refine gD (cI ?_))|refine gW (wI ?_)|refine gPr (pE ?_))<;>conv=>whnf
         refine⟨(i+1,out'),⟨⟨hi,hr3,by show out'.length<=i+1;omega⟩,by show _-(i+1)<_-i;omega⟩,?_⟩
         exact aH
        .have hns:¬(¬x.t.kind=1\/(g.shape c=none/\oiI (g.le c)=x.t.num)):=λe=>e.elim (λe=>e hk1) λe=>hlv e.2
         conv=>whnf
         repeat' (first|(refine gC ?_;first|refine .not ?_|refine gD (cI ?_))|refine gL (.map ?_)|refine gN (nS ?_)|refine gI (gM (iE ?_))|(refine gE ?_;refine eLn ?_))<;>conv=>whnf
         refine aa.ate [0,1] hs rfl rfl ?_
         conv=>whnf
         repeat' (first|(refine gC ?_;first|refine .not ?_|refine gD (cI ?_))|refine gI (gM (iE ?_)))<;>conv=>whnf
         refine aa.ate [0,1] hle rfl rfl ?_;rw[if_neg hns] at hst
         cases hy:m[c]? with
         |none=>rw[hy] at hst;cases hst
         |some y=>
         rw[hy] at hst;simp only at hst;have hcm:=(zB.1 hy).1
         by_cases hbig:200<y.1\/20<y.2
         .rw [if_pos hbig] at hst;cases hst;cases hnone rfl;cases h;rcases Decidable.em (200<y.1) with hb1|hb1
          .conv=>whnf
           repeat' (first|(refine gC ?_;first|refine cY ?_|refine .not ?_|(refine gD ?_;first|refine cI ?_|refine cJ ?_))|refine gI (gM (iE ?_))|refine gPr (pE ?_))<;>conv=>whnf
           refine ae.lay [] oko ?_
           conv=>whnf
           repeat' refine ae.nrm ?_<;>conv=>whnf
           all_goals rfl
          .have hb2:20<y.2:=hbig.resolve_left hb1
           conv=>whnf
           repeat' (first|(refine gC ?_;first|refine .not ?_|(refine gD ?_;first|refine cI ?_|refine cJ ?_))|refine gI (gM (iE ?_))|refine gPr (pE ?_))<;>conv=>whnf
           refine ae.lay [] oko ?_
           conv=>whnf
           repeat' refine ae.nrm ?_<;>conv=>whnf
           all_goals rfl
         .rw [if_neg hbig] at hst;have hb1:¬200<y.1:=λe=>hbig (.inl e);have hb2:¬20<y.2:=λe=>hbig (.inr e)
          cases ht:js g 20 c with
          |none=>rw[ht] at hst;cases hst
          |some t=>
          rw[ht] at hst;cases hst;have htk:=Ke hcap hrk 20 ht;unfold BU at htk
          conv=>whnf
          repeat' (first|(refine gC ?_;first|refine .not ?_|(refine gD ?_;first|refine cI ?_|refine cJ ?_))|refine gI (gM (iE ?_))|refine BL.mk ?_ ?_|refine gPr (pE ?_))<;>conv=>whnf
          .refine aa.ate [0,1] htk rfl rfl ?_
           conv=>whnf
           repeat' refine gPr (pT ?_)<;>conv=>whnf
           refine aD.by (fb:=true) (λ_ (k:Nat)=>⟨[(6,.ptr 0 0),(10,.sl .no (m.map msA)),(12,.sl .no (out'.map Bnd.av)),(13,.int .i64 (i:Int)),(15,.ptr 2 0),(16,.sl .full []),(17,.int .i64 (k:Int))],rbs g.nodes g.cls cap++[.cells [.int .i64 x.t.num,.int .i64 t.kind,.int .i64 t.num,.str t.name,.sl .no (t.args.map Tm.av)]],0⟩) (λk=>k<=out'.length/\∀j b,out'[j]? =some b->j<k->b.v<x.t.num) (λk=>out'.length-k) 0 ⟨zJ _,λj b _ h=>absurd h (Zp _)⟩ ?_ ?_
           .refine ah.lay [some 0,some 1,some 2] oko ?_
            conv=>whnf
            exact aH
           .rintro k ⟨k1,k2⟩
            by_cases hk1:k<out'.length
            .obtain ⟨b,hb⟩:∃b,out'[k]? =some b:=⟨_,zA hk1⟩
             by_cases hlt:b.v<x.t.num
             .conv=>whnf
              repeat' (first|refine gC (gD (cI ?_))|refine gW (wI ?_)|refine gL (.map ?_)|refine gI (gM (iE ?_)))<;>conv=>whnf
              refine⟨k+1,⟨⟨hk1,λj b' hb' hj=>?_⟩,by omega⟩,?_⟩
              .by_cases e:j=k
               .subst e;rw[hb] at hb';cases hb';exact hlt
               .exact k2 j b' hb' (by omega)
              exact aH
             .have hik:gz x.t.num out'=k:=kj k1 k2 λb' hb'=>by rw[hb] at hb';cases hb';exact hlt
              conv=>whnf
              repeat' (first|(refine gC ?_;(refine gD ?_;first|refine cI ?_|refine cJ ?_))|refine gW (wI ?_)|refine gL (.map ?_)|refine gN (nS ?_)|refine gI (gM (iE ?_)))<;>conv=>whnf
              refine⟨(i+1,nh ⟨x.t.num,t⟩ out'),⟨⟨hi,hr3,by rw[gJ];omega⟩,by show _-(i+1)<_-i;omega⟩,?_⟩
              dsimp only;rw[ko,hik];refine ah.lay [some 0,some 1] oko ?_
              conv=>whnf
              refine ah.at_ ?_ rfl
              conv=>whnf
              refine And.intro ?_ ?_<;>conv=>whnf
              all_goals repeat' (first|(refine gV ?_;first|refine vE ?_|refine vI ?_|(refine WkN.norm ?_ ?_;(focus (simp[AV.norm,AV.ax,tV,Bnd.av];done))))|refine gX (xB ?_)|exact True.intro)<;>conv=>whnf
            .obtain rfl:k=out'.length:=by omega
             have hik:gz x.t.num out'=out'.length:=kj k1 k2 λb' hb'=>by simp at hb'
             conv=>whnf
             repeat' (first|(refine gC ?_;first|refine cN ?_|refine gD (cJ ?_))|refine gW (wI ?_)|refine gL (.map ?_)|refine gN (nS ?_))<;>conv=>whnf
             refine⟨(i+1,nh ⟨x.t.num,t⟩ out'),⟨⟨hi,hr3,by rw[gJ];omega⟩,by show _-(i+1)<_-i;omega⟩,?_⟩
             dsimp only;rw[ko,hik];refine ah.lay [some 0,some 1] oko ?_
             conv=>whnf
             refine ah.at_ ?_ rfl
             conv=>whnf
             refine And.intro ?_ ?_<;>conv=>whnf
             all_goals repeat' (first|(refine gV ?_;first|refine vE ?_|refine vI ?_|(refine WkN.norm ?_ ?_;(focus (simp[AV.norm,AV.ax,tV,Bnd.av];done))))|refine gX (xB ?_)|exact True.intro)<;>conv=>whnf
          .refine aa.ate [0,1] htk rfl rfl ?_
           conv=>whnf
           repeat' refine gPr (pT ?_)<;>conv=>whnf
           refine aD.by (fb:=true) (λ_ (k:Nat)=>⟨[(6,.ptr 0 0),(10,.sl .no (m.map msA)),(12,.sl .no (out'.map Bnd.av)),(13,.int .i64 (i:Int)),(15,.ptr 2 0),(16,.sl .full []),(17,.int .i64 (k:Int))],rbs g.nodes g.cls cap++[.cells [.int .i64 x.t.num,.int .i64 t.kind,.int .i64 t.num,.str t.name,.sl .no (t.args.map Tm.av)]],0⟩) (λk=>k<=out'.length/\∀j b,out'[j]? =some b->j<k->b.v<x.t.num) (λk=>out'.length-k) 0 ⟨zJ _,λj b _ h=>absurd h (Zp _)⟩ ?_ ?_
           .refine ah.lay [some 0,some 1,some 3] oko ?_
            conv=>whnf
            exact aH
           .rintro k ⟨k1,k2⟩
            by_cases hk1:k<out'.length
            .obtain ⟨b,hb⟩:∃b,out'[k]? =some b:=⟨_,zA hk1⟩
             by_cases hlt:b.v<x.t.num
             .conv=>whnf
              repeat' (first|refine gC (gD (cI ?_))|refine gW (wI ?_)|refine gL (.map ?_)|refine gI (gM (iE ?_)))<;>conv=>whnf
              refine⟨k+1,⟨⟨hk1,λj b' hb' hj=>?_⟩,by omega⟩,?_⟩
              .by_cases e:j=k
               .subst e;rw[hb] at hb';cases hb';exact hlt
               .exact k2 j b' hb' (by omega)
              exact aH
             .have hik:gz x.t.num out'=k:=kj k1 k2 λb' hb'=>by rw[hb] at hb';cases hb';exact hlt
              conv=>whnf
              repeat' (first|(refine gC ?_;(refine gD ?_;first|refine cI ?_|refine cJ ?_))|refine gW (wI ?_)|refine gL (.map ?_)|refine gN (nS ?_)|refine gI (gM (iE ?_)))<;>conv=>whnf
              refine⟨(i+1,nh ⟨x.t.num,t⟩ out'),⟨⟨hi,hr3,by rw[gJ];omega⟩,by show _-(i+1)<_-i;omega⟩,?_⟩
              dsimp only;rw[ko,hik];refine ah.lay [some 0,some 1] oko ?_
              conv=>whnf
              refine ah.at_ ?_ rfl
              conv=>whnf
              refine And.intro ?_ ?_<;>conv=>whnf
              all_goals repeat' (first|(refine gV ?_;first|refine vE ?_|refine vI ?_|(refine WkN.norm ?_ ?_;(focus (simp[AV.norm,AV.ax,tV,Bnd.av];done))))|refine gX (xB ?_)|exact True.intro)<;>conv=>whnf
            .obtain rfl:k=out'.length:=by omega
             have hik:gz x.t.num out'=out'.length:=kj k1 k2 λb' hb'=>by simp at hb'
             conv=>whnf
             repeat' (first|(refine gC ?_;first|refine cN ?_|refine gD (cJ ?_))|refine gW (wI ?_)|refine gL (.map ?_)|refine gN (nS ?_))<;>conv=>whnf
             refine⟨(i+1,nh ⟨x.t.num,t⟩ out'),⟨⟨hi,hr3,by rw[gJ];omega⟩,by show _-(i+1)<_-i;omega⟩,?_⟩
             dsimp only;rw[ko,hik];refine ah.lay [some 0,some 1] oko ?_
             conv=>whnf
             refine ah.at_ ?_ rfl
             conv=>whnf
             refine And.intro ?_ ?_<;>conv=>whnf
             all_goals repeat' (first|(refine gV ?_;first|refine vE ?_|refine vI ?_|(refine WkN.norm ?_ ?_;(focus (simp[AV.norm,AV.ax,tV,Bnd.av];done))))|refine gX (xB ?_)|exact True.intro)<;>conv=>whnf
       |some k=>
        rw[hsc,show oiN (some k)=(k:Int) from rfl] at hs;have hns:¬(¬x.t.kind=1\/(g.shape c=none/\oiI (g.le c)=x.t.num)):=λe=>e.elim (λe=>e hk1) λe=>by rw[hsc] at e;cases e.1
        conv=>whnf
        repeat' (first|(refine gC ?_;first|refine .not ?_|refine gD (cI ?_))|refine gL (.map ?_)|refine gN (nS ?_)|refine gI (gM (iE ?_))|(refine gE ?_;refine eLn ?_))<;>conv=>whnf
        refine aa.ate [0,1] hs rfl rfl ?_;rw[if_neg hns] at hst
        cases hy:m[c]? with
        |none=>rw[hy] at hst;cases hst
        |some y=>
        rw[hy] at hst;simp only at hst;have hcm:=(zB.1 hy).1
        by_cases hbig:200<y.1\/20<y.2
        .rw [if_pos hbig] at hst;cases hst;cases hnone rfl;cases h;rcases Decidable.em (200<y.1) with hb1|hb1
         .conv=>whnf
          repeat' (first|(refine gC ?_;first|refine cY ?_|refine cN ?_|refine .not ?_|(refine gD ?_;first|refine cI ?_|refine cJ ?_))|refine gI (gM (iE ?_))|refine gPr (pE ?_))<;>conv=>whnf
          refine ae.lay [] oko ?_
          conv=>whnf
          repeat' refine ae.nrm ?_<;>conv=>whnf
          all_goals rfl
         .have hb2:20<y.2:=hbig.resolve_left hb1
          conv=>whnf
          repeat' (first|(refine gC ?_;first|refine cN ?_|refine .not ?_|(refine gD ?_;first|refine cI ?_|refine cJ ?_))|refine gI (gM (iE ?_))|refine gPr (pE ?_))<;>conv=>whnf
          refine ae.lay [] oko ?_
          conv=>whnf
          repeat' refine ae.nrm ?_<;>conv=>whnf
          all_goals rfl
        .rw [if_neg hbig] at hst;have hb1:¬200<y.1:=λe=>hbig (.inl e);have hb2:¬20<y.2:=λe=>hbig (.inr e)
         cases ht:js g 20 c with
         |none=>rw[ht] at hst;cases hst
         |some t=>
         rw[ht] at hst;cases hst;have htk:=Ke hcap hrk 20 ht;unfold BU at htk
         conv=>whnf
         repeat' (first|(refine gC ?_;first|refine cN ?_|refine .not ?_|(refine gD ?_;first|refine cI ?_|refine cJ ?_))|refine gI (gM (iE ?_))|refine BL.mk ?_ ?_|refine gPr (pE ?_))<;>conv=>whnf
         .refine aa.ate [0,1] htk rfl rfl ?_
          conv=>whnf
          repeat' refine gPr (pT ?_)<;>conv=>whnf
          refine aD.by (fb:=true) (λ_ (k:Nat)=>⟨[(6,.ptr 0 0),(10,.sl .no (m.map msA)),(12,.sl .no (out'.map Bnd.av)),(13,.int .i64 (i:Int)),(15,.ptr 2 0),(16,.sl .full []),(17,.int .i64 (k:Int))],rbs g.nodes g.cls cap++[.cells [.int .i64 x.t.num,.int .i64 t.kind,.int .i64 t.num,.str t.name,.sl .no (t.args.map Tm.av)]],0⟩) (λk=>k<=out'.length/\∀j b,out'[j]? =some b->j<k->b.v<x.t.num) (λk=>out'.length-k) 0 ⟨zJ _,λj b _ h=>absurd h (Zp _)⟩ ?_ ?_
          .refine ah.lay [some 0,some 1,some 2] oko ?_
           conv=>whnf
           exact aH
          .rintro k ⟨k1,k2⟩
           by_cases hk1:k<out'.length
           .obtain ⟨b,hb⟩:∃b,out'[k]? =some b:=⟨_,zA hk1⟩
            by_cases hlt:b.v<x.t.num
            .conv=>whnf
             repeat' (first|refine gC (gD (cI ?_))|refine gW (wI ?_)|refine gL (.map ?_)|refine gI (gM (iE ?_)))<;>conv=>whnf
             refine⟨k+1,⟨⟨hk1,λj b' hb' hj=>?_⟩,by omega⟩,?_⟩
             .by_cases e:j=k
              .subst e;rw[hb] at hb';cases hb';exact hlt
              .exact k2 j b' hb' (by omega)
             exact aH
            .have hik:gz x.t.num out'=k:=kj k1 k2 λb' hb'=>by rw[hb] at hb';cases hb';exact hlt
             conv=>whnf
             repeat' (first|(refine gC ?_;(refine gD ?_;first|refine cI ?_|refine cJ ?_))|refine gW (wI ?_)|refine gL (.map ?_)|refine gN (nS ?_)|refine gI (gM (iE ?_)))<;>conv=>whnf
             refine⟨(i+1,nh ⟨x.t.num,t⟩ out'),⟨⟨hi,hr3,by rw[gJ];omega⟩,by show _-(i+1)<_-i;omega⟩,?_⟩
             dsimp only;rw[ko,hik];refine ah.lay [some 0,some 1] oko ?_
             conv=>whnf
             refine ah.at_ ?_ rfl
             conv=>whnf
             refine And.intro ?_ ?_<;>conv=>whnf
             all_goals repeat' (first|(refine gV ?_;first|refine vE ?_|refine vI ?_|(refine WkN.norm ?_ ?_;(focus (simp[AV.norm,AV.ax,tV,Bnd.av];done))))|refine gX (xB ?_)|exact True.intro)<;>conv=>whnf
           .obtain rfl:k=out'.length:=by omega
            have hik:gz x.t.num out'=out'.length:=kj k1 k2 λb' hb'=>by simp at hb'
            conv=>whnf
            repeat' (first|(refine gC ?_;first|refine cN ?_|refine gD (cJ ?_))|refine gW (wI ?_)|refine gL (.map ?_)|refine gN (nS ?_))<;>conv=>whnf
            refine⟨(i+1,nh ⟨x.t.num,t⟩ out'),⟨⟨hi,hr3,by rw[gJ];omega⟩,by show _-(i+1)<_-i;omega⟩,?_⟩
            dsimp only;rw[ko,hik];refine ah.lay [some 0,some 1] oko ?_
            conv=>whnf
            refine ah.at_ ?_ rfl
            conv=>whnf
            refine And.intro ?_ ?_<;>conv=>whnf
            all_goals repeat' (first|(refine gV ?_;first|refine vE ?_|refine vI ?_|(refine WkN.norm ?_ ?_;(focus (simp[AV.norm,AV.ax,tV,Bnd.av];done))))|refine gX (xB ?_)|exact True.intro)<;>conv=>whnf
         .refine aa.ate [0,1] htk rfl rfl ?_
          conv=>whnf
          repeat' refine gPr (pT ?_)<;>conv=>whnf
          refine aD.by (fb:=true) (λ_ (k:Nat)=>⟨[(6,.ptr 0 0),(10,.sl .no (m.map msA)),(12,.sl .no (out'.map Bnd.av)),(13,.int .i64 (i:Int)),(15,.ptr 2 0),(16,.sl .full []),(17,.int .i64 (k:Int))],rbs g.nodes g.cls cap++[.cells [.int .i64 x.t.num,.int .i64 t.kind,.int .i64 t.num,.str t.name,.sl .no (t.args.map Tm.av)]],0⟩) (λk=>k<=out'.length/\∀j b,out'[j]? =some b->j<k->b.v<x.t.num) (λk=>out'.length-k) 0 ⟨zJ _,λj b _ h=>absurd h (Zp _)⟩ ?_ ?_
          .refine ah.lay [some 0,some 1,some 3] oko ?_
           conv=>whnf
           exact aH
          .rintro k ⟨k1,k2⟩
           by_cases hk1:k<out'.length
           .obtain ⟨b,hb⟩:∃b,out'[k]? =some b:=⟨_,zA hk1⟩
            by_cases hlt:b.v<x.t.num
            .conv=>whnf
             repeat' (first|refine gC (gD (cI ?_))|refine gW (wI ?_)|refine gL (.map ?_)|refine gI (gM (iE ?_)))<;>conv=>whnf
             refine⟨k+1,⟨⟨hk1,λj b' hb' hj=>?_⟩,by omega⟩,?_⟩
             .by_cases e:j=k
              .subst e;rw[hb] at hb';cases hb';exact hlt
              .exact k2 j b' hb' (by omega)
             exact aH
            .have hik:gz x.t.num out'=k:=kj k1 k2 λb' hb'=>by rw[hb] at hb';cases hb';exact hlt
             conv=>whnf
             repeat' (first|(refine gC ?_;(refine gD ?_;first|refine cI ?_|refine cJ ?_))|refine gW (wI ?_)|refine gL (.map ?_)|refine gN (nS ?_)|refine gI (gM (iE ?_)))<;>conv=>whnf
             refine⟨(i+1,nh ⟨x.t.num,t⟩ out'),⟨⟨hi,hr3,by rw[gJ];omega⟩,by show _-(i+1)<_-i;omega⟩,?_⟩
             dsimp only;rw[ko,hik];refine ah.lay [some 0,some 1] oko ?_
             conv=>whnf
             refine ah.at_ ?_ rfl
             conv=>whnf
             refine And.intro ?_ ?_<;>conv=>whnf
             all_goals repeat' (first|(refine gV ?_;first|refine vE ?_|refine vI ?_|(refine WkN.norm ?_ ?_;(focus (simp[AV.norm,AV.ax,tV,Bnd.av];done))))|refine gX (xB ?_)|exact True.intro)<;>conv=>whnf
           .obtain rfl:k=out'.length:=by omega
            have hik:gz x.t.num out'=out'.length:=kj k1 k2 λb' hb'=>by simp at hb'
            conv=>whnf
            repeat' (first|(refine gC ?_;first|refine cN ?_|refine gD (cJ ?_))|refine gW (wI ?_)|refine gL (.map ?_)|refine gN (nS ?_))<;>conv=>whnf
            refine⟨(i+1,nh ⟨x.t.num,t⟩ out'),⟨⟨hi,hr3,by rw[gJ];omega⟩,by show _-(i+1)<_-i;omega⟩,?_⟩
            dsimp only;rw[ko,hik];refine ah.lay [some 0,some 1] oko ?_
            conv=>whnf
            refine ah.at_ ?_ rfl
            conv=>whnf
            refine And.intro ?_ ?_<;>conv=>whnf
            all_goals repeat' (first|(refine gV ?_;first|refine vE ?_|refine vI ?_|(refine WkN.norm ?_ ?_;(focus (simp[AV.norm,AV.ax,tV,Bnd.av];done))))|refine gX (xB ?_)|exact True.intro)<;>conv=>whnf
     .obtain rfl:i=g.nodes.length:=by omega
      rw[hS] at r2;cases r2;cases h
      conv=>whnf
      repeat' (first|refine gC (gD (cJ ?_))|refine gL (.map ?_))<;>conv=>whnf
      refine ae.lay [] oko ?_
      conv=>whnf
      repeat' refine ae.nrm ?_<;>conv=>whnf
      all_goals rfl
end Go.CK
