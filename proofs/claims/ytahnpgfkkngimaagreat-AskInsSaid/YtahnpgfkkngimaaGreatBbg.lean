/-
  Texts of this aQ joined (wip/gen/bundle.py),those declarations only that are needed:UrG UrH UrI. By an AI agent.
-/
import Derived.Test.YtahnpgfkkngimaaGreatBbf
set_option linter.unusedSimpArgs false
set_option linter.unusedVariables false
set_option maxRecDepth 100000
namespace Go.CK
open Go.AM Go.Proofs
def qZ(l:List Nat)(x y i:Nat):List Nat:=(l.take i).map (λc=>if c=y then x else c)++l.drop i
theorem ud(l:List Nat)(x y i:Nat):(qZ l x y i).length=l.length:=by
 unfold qZ;rw[ZC,ZF,Zn,Yf];omega
theorem Ao{l:List Nat}{x y i v:Nat}(h:l[i]? =some v):(qZ l x y i)[i]? =some v:=by
 have hi:=(ZB.1 h).1;unfold qZ;rw[ZZ (by rw[ZF,Zn];omega),ZF,Zn,List.getElem?_drop,<-h]
 congr 1;omega
theorem xo{l:List Nat}{x y i v:Nat}(h:l[i]? =some v):qZ l x y (i+1)=(qZ l x y i).set i (if v=y then x else v):=by
 have hi:=(ZB.1 h).1;have hd:l.drop i=v::l.drop (i+1):=by rw[ZH hi,(ZB.1 h).2]
 unfold qZ;rw[hd,Xc _ _ (by rw[ZF,Zn];omega),ZF,Zn,show i-min i l.length=0 by omega,List.set_cons_zero,Zz,h,Option.toList_some,Zt,Zg];rfl
theorem EJ{l:List Nat}{x y i v:Nat}(h:l[i]? =some v)(hv:¬v=y):qZ l x y (i+1)=qZ l x y i:=by
 rw[xo h,if_neg hv];obtain⟨h1,h2⟩:=ZB.1 (Ao (x:=x) (y:=y) h);rw[<-h2];exact List.set_getElem_self _
theorem GQ(g:Rg)(x y:Nat):qZ g.cls x y g.cls.length=(fZ g x y).cls:=by
 unfold qZ fZ;rw[Zw,Zj,Zv]
theorem ue(g:Rg)(x y:Nat):(fZ g x y).nodes=g.nodes:=rfl
theorem ux{M:Rg->Nat->Nat->Option (Rg×Bool)}(hM:∀{g a b g' r},M g a b=some (g',r)->g'.nodes=g.nodes/\g'.cls.length=g.cls.length):∀{l:List (Nat×Nat)} {g g':Rg} {r:Bool},kR M g l=some (g',r)->g'.nodes=g.nodes/\g'.cls.length=g.cls.length
 |[],g,g',r,h=>by cases h;exact⟨rfl,rfl⟩
 |(a,b)::l,g,g',r,h=>by
  rw[kR] at h;split at h
  .cases h
  .rename_i h1;cases h;exact hM h1
  .rename_i h1;have h2:=hM h1;have h3:=ux hM h;exact⟨h3.1.trans h2.1,h3.2.trans h2.2⟩
theorem pc:∀{f:Nat} {g:Rg} {a b:Nat} {g':Rg} {r:Bool},iW f g a b=some (g',r)->g'.nodes=g.nodes/\g'.cls.length=g.cls.length
 |0,g,a,b,g',r,h=>by cases h
 |f+1,g,a,b,g',r,h=>by
  have hm:∀x y,(fZ g x y).nodes=g.nodes/\(fZ g x y).cls.length=g.cls.length:=λx y=>⟨rfl,ZF ..⟩;rw[iW] at h;split at h
  .split at h
   .cases h;exact⟨rfl,rfl⟩
   .split at h
    .split at h
     .split at h
      .have h3:=ux (M:=iW f) (λ{g a b g' r} h=>pc (f:=f) h) h;exact⟨h3.1.trans (hm _ _).1,h3.2.trans (hm _ _).2⟩
      .cases h;exact hm _ _
     .cases h
    .cases h;exact hm _ _
  .cases h
set_option maxHeartbeats 4000000 in
theorem Kr:∀(f:Nat) {g g':Rg} {a b cap:Nat} {r:Bool},iW f g a b=some (g',r)->g.cls.length<=cap->g.cls.length=g.nodes.length->g.nodes.length<=4000000000->(∀(i:Nat) (x:Nd),g.nodes[i]? =some x->x.kids.length<=6)->AM.Sem Tryz.prog 152 [.ptr 0 0,.int .i64 (a:Int),.int .i64 (b:Int)] (g.bs cap) λq bs'=>q=.bool r/\bs'=g'.bs cap:=by
 intro f
 induction f with
 |zero=>intro g g' a b cap r h;cases h
 |succ f ih=>
  intro g g' a b cap r h hcap hl hn h6;rw[iW] at h
  cases hx:g.cls[a]? with
  |none=>rw[hx] at h;cases h
  |some x=>
  cases hy:g.cls[b]? with
  |none=>rw[hx,hy] at h;cases h
  |some y=>
  rw[hx,hy] at h;simp only at h;have ha:=(ZB.1 hx).1;have hb:=(ZB.1 hy).1;refine eQ (by simp) ?_
  have hsx:=pJ (c:=x) hcap hl hn;have hsy:=pJ (c:=y) hcap hl hn
  by_cases hxy:x=y
  .rw [if_pos hxy] at h;cases h;have hxy':(x:Int)=(y:Int):=by omega
   conv=>whnf
   repeat' (first|refine gC (gD (cI ?_))|refine gN (nS ?_)|(refine gE ?_;refine eLn ?_)|refine af.nrm ?_)<;>conv=>whnf
   exact⟨rfl,rfl⟩
  .rw [if_neg hxy] at h;have hxy':¬(x:Int)=(y:Int):=by omega
   conv=>whnf
   repeat' (first|(refine gF ?_;first|refine ab.to (hsx) ?_|refine ab.to (hsy) ?_)|refine gC (gD (cJ ?_))|refine gN (nS ?_)|(refine gE ?_;refine eLn ?_))<;>conv=>whnf
   refine aw.by (fb:=true) (λ_ (i:Nat)=>⟨[(0,.ptr 0 0),(7,.int .i64 (x:Int)),(8,.int .i64 (y:Int)),(9,.int .i64 (oiN (g.shape x))),(10,.int .i64 (oiN (g.shape y))),(11,.int .i64 (i:Int))],rbs g.nodes (qZ g.cls x y i) cap,2⟩) (λi=>i<=g.cls.length) (λi=>g.cls.length-i) 0 (ZJ _) ?_ ?_
   .refine ah.at_ ?_ rfl
    conv=>whnf
    refine And.intro ?_ ?_<;>conv=>whnf
    all_goals repeat' (first|(refine gV ?_;first|refine vE ?_|refine vI ?_)|(refine gX ?_;first|refine xB ?_|(refine BxN.mk ?_ ?_;(focus (simp[AV.norm,AV.aD,qZ];done))))|exact True.intro)<;>conv=>whnf
   .rintro i q1
    by_cases hi:i<g.cls.length
    .obtain ⟨v,hv⟩:∃v,g.cls[i]? =some v:=⟨_,ZA hi⟩;have hget:=Ao (x:=x) (y:=y) hv;have hstep:=xo (x:=x) (y:=y) hv;have hsame:=EJ (x:=x) (y:=y) hv;have hlen:=ud g.cls x y i;have hlen1:=ud g.cls x y (i+1)
     by_cases hvy:v=y
     .have hvy':(v:Int)=(y:Int):=by omega
      rw[if_pos hvy] at hstep
      conv=>whnf
      repeat' (first|refine gC (gD (cI ?_))|refine gW (wI ?_)|refine gN (nS ?_)|(refine gE ?_;refine eLn ?_)|refine gS (eSn ?_))<;>conv=>whnf
      refine⟨i+1,⟨hi,by omega⟩,?_⟩
      rw[hstep];refine ah.at_ ?_ rfl
      conv=>whnf
      refine And.intro ?_ ?_<;>conv=>whnf
      all_goals repeat' (first|(refine gV ?_;first|refine vE ?_|refine vI ?_)|(refine gX ?_;first|refine xB ?_|(refine BxN.mk ?_ ?_;(focus (simp[AV.norm,AV.aD,];done))))|exact True.intro)<;>conv=>whnf
     .have hvy':¬(v:Int)=(y:Int):=by omega
      conv=>whnf
      repeat' (first|(refine gC ?_;(refine gD ?_;first|refine cI ?_|refine cJ ?_))|refine gW (wI ?_)|refine gN (nS ?_)|(refine gE ?_;refine eLn ?_))<;>conv=>whnf
      refine⟨i+1,⟨hi,by omega⟩,?_⟩
      rw[hsame hvy];exact au
    .obtain rfl:i=g.cls.length:=by omega
     have hlen:=ud g.cls x y g.cls.length;rw[GQ] at hlen|-
     cases hsm:g.shape x with
     |none=>
      rw[hsm] at h;cases h;rw[show oiN none=-1 from rfl]
      conv=>whnf
      repeat' (first|(refine gC ?_;first|refine cY ?_|(refine gD ?_;first|refine cI ?_|refine cJ ?_))|refine af.nrm ?_)<;>conv=>whnf
      all_goals exact⟨rfl,rfl⟩
     |some m=>
      rw[hsm] at h;rw[show oiN (some m)=(m:Int) from rfl]
      cases hsn:g.shape y with
      |none=>
       rw[hsn] at h;cases h;rw[show oiN none=-1 from rfl]
       conv=>whnf
       repeat' (first|(refine gC ?_;(refine gD ?_;first|refine cI ?_|refine cJ ?_))|refine af.nrm ?_)<;>conv=>whnf
       all_goals exact⟨rfl,rfl⟩
      |some n=>
       rw[hsn] at h;rw[show oiN (some n)=(n:Int) from rfl];simp only at h
       cases hp:g.nodes[m]? with
       |none=>rw[hp] at h;cases h
       |some p=>
       cases hq:g.nodes[n]? with
       |none=>rw[hp,hq] at h;cases h
       |some q=>
       rw[hp,hq] at h;simp only at h;have hp6:=h6 _ _ hp;have hq6:=h6 _ _ hq
       cases hal:pw p q with
       |false=>
        rw[hal,if_neg YY] at h;cases h
        conv=>whnf
        repeat' (first|(refine gC ?_;first|refine cY ?_|refine .not ?_|(refine gD ?_;first|refine cI ?_|refine cJ ?_)|refine aq.dec (λhc=>?_) (λhc=>?_))|refine gL (.map ?_)|refine gI (gM (iE ?_))|refine yc.mk ?_ ?_)<;>conv=>whnf
        all_goals first
         |(refine af.lay [some 0,some 1] oko ?_;conv=>whnf)
         |(exfalso;revert hal;simp[pw, *];done)
         |(exfalso;revert hal;simp[pw, *];omega)
        conv=>whnf
        repeat' refine af.nrm ?_<;>conv=>whnf
        all_goals exact⟨rfl,rfl⟩
       |true=>
        rw[hal,if_pos rfl] at h
        obtain⟨k1,k2,k3,k4⟩:p.t.kind=q.t.kind/\p.t.num=q.t.num/\p.t.name=q.t.name/\p.kids.length=q.kids.length:=by
         simpa only[pw,ZD,decide_eq_true_eq] using hal
        conv=>whnf
        repeat' (first|(refine gC ?_;first|refine .not ?_|(refine gD ?_;first|refine cI ?_|refine cJ ?_))|refine gL (.map ?_)|refine gI (gM (iE ?_))|refine yc.mk ?_ ?_)<;>conv=>whnf
        .refine aw.by (fb:=true) (λ_ (q':Nat×Rg)=>⟨[(0,.ptr 0 0),(12,.ptr 2 0),(13,.ptr 3 0),(14,.int .i64 (q'.1:Int))],q'.2.bs cap++[.cells [.int .i64 p.t.kind,.int .i64 p.t.num,.str p.t.name,.sl .no (p.kids.map bG)],.cells [.int .i64 q.t.kind,.int .i64 q.t.num,.str q.t.name,.sl .no (q.kids.map bG)]],2⟩) (λq'=>q'.1<=p.kids.length/\kR (iW f) q'.2 ((p.kids.zip q.kids).drop q'.1)=some (g',r)/\q'.2.nodes=g.nodes/\q'.2.cls.length=g.cls.length) (λq'=>p.kids.length-q'.1) (0,fZ g x y) ⟨ZJ _,h,rfl,ZF ..⟩ ?_ ?_
         .refine ah.lay [some 0,some 1,some 2,some 3] oko ?_
          conv=>whnf
          refine ah.at_ ?_ rfl
          conv=>whnf
          refine And.intro ?_ ?_<;>conv=>whnf
          all_goals repeat' (first|(refine gV ?_;first|refine vE ?_|refine vI ?_)|(refine gX ?_;first|refine xB ?_|(refine BxN.mk ?_ ?_;(focus (simp[AV.norm,AV.aD,ue];done))))|exact True.intro)<;>conv=>whnf
         .rintro ⟨j,gj⟩ ⟨q1,q2,q3,q4⟩;dsimp only at q1 q2 q3 q4|-
          by_cases hj:j<p.kids.length
          .obtain ⟨w1,hw1⟩:∃w,p.kids[j]? =some w:=⟨_,ZA hj⟩;obtain⟨w2,hw2⟩:∃w,q.kids[j]? =some w:=⟨_,ZA (by omega)⟩
           have hz:(p.kids.zip q.kids)[j]? =some (w1,w2):=YS.2 ⟨hw1,hw2⟩;have hzl:j<(p.kids.zip q.kids).length:=(ZB.1 hz).1;rw[ZH hzl,(ZB.1 hz).2,kR] at q2
           cases hm:iW f gj w1 w2 with
           |none=>rw[hm] at q2;cases q2
           |some gb=>
            obtain⟨g4,b4⟩:=gb;rw[hm] at q2;have hkp:=pc hm;have hcall:=ih (cap:=cap) hm (by omega) (by rw[q4,q3];exact hl) (by rw[q3];exact hn) (by rw[q3];exact h6)
            conv=>whnf
            repeat' (first|refine gC (gD (cI ?_))|refine gL (.map ?_)|refine gI (gM (iE ?_)))<;>conv=>whnf
            refine ab.ate [0,1] hcall rfl rfl ?_
            cases b4 with
            |false=>
             cases q2
             conv=>whnf
             repeat' (refine gC ?_;first|refine cN ?_|refine .not ?_)<;>conv=>whnf
             refine af.lay [some 0,some 1] oko ?_
             conv=>whnf
             repeat' refine af.nrm ?_<;>conv=>whnf
             exact⟨rfl,rfl⟩
            |true=>
             simp only at q2
             conv=>whnf
             repeat' (first|(refine gC ?_;first|refine cY ?_|refine .not ?_)|refine gW (wI ?_))<;>conv=>whnf
             refine⟨(j+1,g4),⟨⟨hj,q2,hkp.1.trans q3,hkp.2.trans q4⟩,by show _-(j+1)<_-j;omega⟩,?_⟩
             exact au
          .obtain rfl:j=p.kids.length:=by omega
           rw[Yk (by rw[XT];omega),kR] at q2
           cases q2
           conv=>whnf
           repeat' (first|refine gC (gD (cJ ?_))|refine gL (.map ?_))<;>conv=>whnf
           refine af.lay [some 0,some 1] oko ?_
           conv=>whnf
           repeat' refine af.nrm ?_<;>conv=>whnf
           exact⟨rfl,rfl⟩
        .refine aw.by (fb:=true) (λ_ (q':Nat×Rg)=>⟨[(0,.ptr 0 0),(12,.ptr 2 0),(13,.ptr 3 0),(14,.int .i64 (q'.1:Int))],q'.2.bs cap++[.cells [.int .i64 p.t.kind,.int .i64 p.t.num,.str p.t.name,.sl .no (p.kids.map bG)],.cells [.int .i64 q.t.kind,.int .i64 q.t.num,.str q.t.name,.sl .no (q.kids.map bG)]],2⟩) (λq'=>q'.1<=p.kids.length/\kR (iW f) q'.2 ((p.kids.zip q.kids).drop q'.1)=some (g',r)/\q'.2.nodes=g.nodes/\q'.2.cls.length=g.cls.length) (λq'=>p.kids.length-q'.1) (0,fZ g x y) ⟨ZJ _,h,rfl,ZF ..⟩ ?_ ?_
         .refine ah.lay [some 0,some 1,some 3,some 2] oko ?_
          conv=>whnf
          refine ah.at_ ?_ rfl
          conv=>whnf
          refine And.intro ?_ ?_<;>conv=>whnf
          all_goals repeat' (first|(refine gV ?_;first|refine vE ?_|refine vI ?_)|(refine gX ?_;first|refine xB ?_|(refine BxN.mk ?_ ?_;(focus (simp[AV.norm,AV.aD,ue];done))))|exact True.intro)<;>conv=>whnf
         .rintro ⟨j,gj⟩ ⟨q1,q2,q3,q4⟩;dsimp only at q1 q2 q3 q4|-
          by_cases hj:j<p.kids.length
          .obtain ⟨w1,hw1⟩:∃w,p.kids[j]? =some w:=⟨_,ZA hj⟩;obtain⟨w2,hw2⟩:∃w,q.kids[j]? =some w:=⟨_,ZA (by omega)⟩
           have hz:(p.kids.zip q.kids)[j]? =some (w1,w2):=YS.2 ⟨hw1,hw2⟩;have hzl:j<(p.kids.zip q.kids).length:=(ZB.1 hz).1;rw[ZH hzl,(ZB.1 hz).2,kR] at q2
           cases hm:iW f gj w1 w2 with
           |none=>rw[hm] at q2;cases q2
           |some gb=>
            obtain⟨g4,b4⟩:=gb;rw[hm] at q2;have hkp:=pc hm;have hcall:=ih (cap:=cap) hm (by omega) (by rw[q4,q3];exact hl) (by rw[q3];exact hn) (by rw[q3];exact h6)
            conv=>whnf
            repeat' (first|refine gC (gD (cI ?_))|refine gL (.map ?_)|refine gI (gM (iE ?_)))<;>conv=>whnf
            refine ab.ate [0,1] hcall rfl rfl ?_
            cases b4 with
            |false=>
             cases q2
             conv=>whnf
             repeat' (refine gC ?_;first|refine cN ?_|refine .not ?_)<;>conv=>whnf
             refine af.lay [some 0,some 1] oko ?_
             conv=>whnf
             repeat' refine af.nrm ?_<;>conv=>whnf
             exact⟨rfl,rfl⟩
            |true=>
             simp only at q2
             conv=>whnf
             repeat' (first|(refine gC ?_;first|refine cY ?_|refine .not ?_)|refine gW (wI ?_))<;>conv=>whnf
             refine⟨(j+1,g4),⟨⟨hj,q2,hkp.1.trans q3,hkp.2.trans q4⟩,by show _-(j+1)<_-j;omega⟩,?_⟩
             exact au
          .obtain rfl:j=p.kids.length:=by omega
           rw[Yk (by rw[XT];omega),kR] at q2
           cases q2
           conv=>whnf
           repeat' (first|refine gC (gD (cJ ?_))|refine gL (.map ?_))<;>conv=>whnf
           refine af.lay [some 0,some 1] oko ?_
           conv=>whnf
           repeat' refine af.nrm ?_<;>conv=>whnf
           exact⟨rfl,rfl⟩
end Go.CK
namespace Go.CK
open Go.AM Go.Proofs
structure RK(g:Rg):Prop where
 len:g.cls.length=g.nodes.length
 lim:g.nodes.length<=4000000000
 six:∀(i:Nat) (x:Nd),g.nodes[i]? =some x->x.kids.length<=6
 pos:∀(i:Nat) (x:Nd),g.nodes[i]? =some x->x.t.kind=1->0<=x.t.num
theorem wQ{M:Nat->Option Tm}{g:Rg}:∀{l:List Nat} {ts:List Tm},me M g l=some ts->ts.length=l.length
 |[],ts,h=>by cases h;rfl
 |c::l,ts,h=>by
  rw[me] at h;split at h
  .cases h
  .split at h
   .cases h
   .split at h
    .cases h
    .rename_i h1;cases h;simp only[ZX,wQ h1]
def Dh(g:Rg)(x:Nd)(k cap j kc:Nat)(acc:List Tm):St:=⟨[(0,.ptr 0 0),(4,.ptr 2 0),(5,.int .i64 (k:Int)),(6,.ptr 3 0),(7,.int .i64 (j:Int))],
 if j<x.kids.length then rbs g.nodes g.cls cap++[.cells [.int .i64 0,.int .i64 0,.str ⟨⟨[]⟩⟩,.sl .full []],.cells [.int .i64 x.t.kind,.int .i64 x.t.num,.str x.t.name,.bsl 4 (acc.map some).length kc],aL tmA 4 kc (acc.map some)]
 else rbs g.nodes g.cls cap++[.cells [.int .i64 0,.int .i64 0,.str ⟨⟨[]⟩⟩,.sl .full []],.cells [.int .i64 x.t.kind,.int .i64 x.t.num,.str x.t.name,.sl .no (acc.map Tm.av)],.dead],2⟩
def yi(g:Rg)(t:Tm)(cap:Nat)(r:AV)(bs':List Box):Prop:=r=t.avw/\bs'=g.bs cap++[.cells [.int .i64 t.kind,.int .i64 t.num,.str t.name,.sl .no (t.args.map Tm.av)]]
set_option maxHeartbeats 4000000 in
theorem F2{g:Rg}{cap:Nat}(hcap:g.cls.length<=cap)(hk:RK g):∀(f:Nat) {c:Nat} {t:Tm},gU g f c=some t->AM.Sem Tryz.prog 156 [.ptr 0 0,.int .i64 (c:Int)] (g.bs cap) (yi g t cap):=by
 intro f
 induction f with
 |zero=>intro c t h;cases h
 |succ f ih=>
  intro c t h;rw[gU] at h;have hl:=hk.len;have hn:=hk.lim;have hs:=pJ (c:=c) hcap hk.len hk.lim;have hle:=DI (c:=c) hcap hk.len hk.lim hk.pos;refine eP (by simp) ?_
  cases hsc:g.shape c with
  |none=>
   rw[hsc] at h hs;cases h;rw[show oiN none=-1 from rfl] at hs
   conv=>whnf
   skip;refine ab.ate [0,1] hs rfl rfl ?_
   conv=>whnf
   repeat' refine gC (gD (cI ?_))<;>conv=>whnf
   refine ab.ate [0,1] hle rfl rfl ?_
   conv=>whnf
   skip;refine af.wk (aB.cx _ (.bx 2 3) rfl rfl) ?_
   conv=>whnf
   refine af.bY bp 2 3 (b:=3) (m:=0) (k:=0) (k0:=0) (l:=[]) rfl rfl rfl (ZG _) ?_
   conv=>whnf
   refine af.lay [some 0,some 1,some 2] oko ?_
   conv=>whnf
   repeat' refine af.nrm ?_<;>conv=>whnf
   exact⟨rfl,rfl⟩
  |some k=>
   rw[hsc] at h hs;rw[show oiN (some k)=(k:Int) from rfl] at hs;simp only at h
   cases hx:g.nodes[k]? with
   |none=>rw[hx] at h;cases h
   |some x=>
    rw[hx] at h;simp only at h;have h6:=hk.six _ _ hx
    cases hL:me (gU g f) g x.kids with
    |none=>rw[hL] at h;cases h
    |some l=>
     rw[hL] at h;cases h;have hll:=wQ hL
     conv=>whnf
     skip;refine ab.ate [0,1] hs rfl rfl ?_
     conv=>whnf
     repeat' (first|refine gC (gD (cJ ?_))|refine gI (gM (iE ?_)))<;>conv=>whnf
     refine aw.by (fb:=true) (λ_ (q:Nat×List Tm×Nat)=>Dh g x k cap q.1 q.2.2 q.2.1) (λq=>q.1<=x.kids.length/\q.2.1.length=q.1/\q.1<=q.2.2/\∃l2,me (gU g f) g (x.kids.drop q.1)=some l2/\l=q.2.1++l2) (λq=>x.kids.length-q.1) (0,[],0) ⟨ZJ _,rfl,ZG _,l,hL,rfl⟩ ?_ ?_
     .dsimp only;rw[Dh]
      by_cases h0:0<x.kids.length
      .rw [if_pos h0];refine ah.cx (.bx 3 3) rfl rfl ?_
       conv=>whnf
       refine ah.at_ ?_ rfl
       conv=>whnf
       refine And.intro ?_ ?_<;>conv=>whnf
       all_goals repeat' (first|(refine gV ?_;first|refine vE ?_|refine vI ?_)|(refine gX ?_;first|refine xB ?_|(refine BxN.mk ?_ ?_;(focus (simp[AV.norm,AV.aD,cellsOf];done))))|exact True.intro)<;>conv=>whnf
      .rw [if_neg h0];refine ah.cx (.bx 3 3) rfl rfl ?_
       conv=>whnf
       refine ah.bY bp 3 3 (b:=4) (m:=0) (k:=0) (k0:=0) (l:=[]) rfl rfl rfl (ZG _) ?_
       conv=>whnf
       refine ah.at_ ?_ rfl
       conv=>whnf
       refine And.intro ?_ ?_<;>conv=>whnf
       all_goals repeat' (first|(refine gV ?_;first|refine vE ?_|refine vI ?_)|(refine gX ?_;first|refine xB ?_|(refine BxN.mk ?_ ?_;(focus (simp[AV.norm,AV.aD,];done))))|exact True.intro)<;>conv=>whnf
     .rintro ⟨j,acc,kc⟩ ⟨q1,q2,q3,l2,q4,q5⟩;dsimp only at q1 q2 q3 q4 q5|-;have hal:(acc.map some).length=j:=by rw[ZF];exact q2
      rw[Dh]
      by_cases hj:j<x.kids.length
      .rw [if_pos hj];obtain⟨w,hw⟩:∃w,x.kids[j]? =some w:=⟨_,ZA hj⟩;rw[ZH hj,(ZB.1 hw).2,me] at q4
       cases hcw:g.cls[w]? with
       |none=>rw[hcw] at q4;cases q4
       |some s=>
       rw[hcw] at q4;simp only at q4
       cases hts:gU g f s with
       |none=>rw[hts] at q4;cases q4
       |some t4=>
       rw[hts] at q4;simp only at q4
       cases hL4:me (gU g f) g (x.kids.drop (j+1)) with
       |none=>rw[hL4] at q4;cases q4
       |some l5=>
       rw[hL4] at q4;cases q4;have hwl:=(ZB.1 hcw).1;have hcall:=ih hts
       conv=>whnf
       repeat' (first|refine gC (gD (cI ?_))|refine gL (.map ?_)|refine gN (nS ?_)|refine gI (gM (iE ?_))|(refine gE ?_;refine eLn ?_))<;>conv=>whnf
       refine ab.at [0,1] hcall rfl rfl ?_ oko ?_
       .rintro r bs' ⟨rfl,rfl⟩;exact⟨rfl,rfl,oko⟩
       rintro r bs' ⟨rfl,rfl⟩
       conv=>whnf
       repeat' refine gPr (pT ?_)<;>conv=>whnf
       refine lh.one bp (l:=acc.map some) (k:=kc) (x:=some t4) rfl rfl (by omega) (by omega) λk' hk'=>?_
       conv=>whnf
       repeat' refine gW (wI ?_)<;>conv=>whnf
       have hmap:acc.map some++[some t4]=(acc++[t4]).map some:=by rw[Zt];rfl
       refine⟨(j+1,acc++[t4],k'),⟨⟨hj,by show (acc++[t4]).length=j+1;rw[ZC,q2];rfl,by rw[ZC,hal] at hk';exact hk',l5,hL4,by rw[q5];simp⟩,by show _-(j+1)<_-j;omega⟩,?_⟩
       dsimp only;rw[Dh,hmap];rw[hmap] at hk'
       by_cases hj1:j+1<x.kids.length
       .rw [if_pos hj1];refine ah.lay [some 0,some 1,some 2,some 3,some 6] oko ?_
        conv=>whnf
        exact au
       .rw [if_neg hj1];refine ah.bY bp 3 3 (b:=6) (l:=(acc++[t4]).map some) rfl rfl rfl (ZG _) ?_;rw[Zw,j0]
        conv=>whnf
        refine ah.lay [some 0,some 1,some 2,some 3,none] oko ?_
        conv=>whnf
        exact au
      .obtain rfl:j=x.kids.length:=by omega
       rw[Zj,me] at q4;cases q4;rw[Zv] at q5;subst q5;rw[if_neg hj]
       conv=>whnf
       repeat' (first|refine gC (gD (cJ ?_))|refine gL (.map ?_)|refine gI (gM (iE ?_)))<;>conv=>whnf
       refine af.lay [some 0,some 1,some 2] oko ?_
       conv=>whnf
       repeat' refine af.nrm ?_<;>conv=>whnf
       exact⟨rfl,rfl⟩
end Go.CK
namespace Go.CK
open Go.AM Go.Proofs
theorem ef:Plain msA 2:=⟨by omega,λ_=>rfl,λx c h=>by simp[msA,AV.cells] at h;rcases h with rfl|rfl<;>rfl,λx c h=>by simp[msA,AV.cells] at h;rcases h with rfl|rfl<;>rfl⟩
def sU(g:Rg)(i:Nat):Nat:=(List.range i).countP λk=>decide (g.cls[k]? =some k)
theorem D6(g:Rg)(i:Nat):sU g i<=i:=by
 unfold sU;have:=Yz (p:=λk=>decide (g.cls[k]? =some k)) (l:=List.range i);rw[Yu] at this;exact this
theorem HC{g:Rg}{i:Nat}(h:g.cls[i]? =some i):sU g (i+1)=sU g i+1:=by
 unfold sU;rw[List.range_succ,List.countP_append,List.countP_singleton,decide_eq_true h];rfl
theorem I9{g:Rg}{i c:Nat}(h:g.cls[i]? =some c)(hc:¬c=i):sU g (i+1)=sU g i:=by
 unfold sU;rw[List.range_succ,List.countP_append,List.countP_singleton,decide_eq_false (by rw[h];simpa using hc)];rfl
theorem tr{g:Rg}{m:List (Int×Int)}{left:Int}:∀{n:Nat} {r:List (Int×Int)×Int},jg g n m left=some r->∀i,i<=n->∃r',jg g i m left=some r'
 |0,r,h,i,hi=>by
  obtain rfl:i=0:=by omega
  exact⟨_,h⟩
 |n+1,r,h,i,hi=>by
  by_cases e:i=n+1
  .subst e;exact⟨_,h⟩
  .rw [jg] at h;split at h
   .cases h
   .rename_i h1;exact tr h1 i (by omega)
def DG(g:Rg)(r:Option (List (Int×Int)))(cap:Nat)(q:AV)(bs':List Box):Prop:=q=.tup (match r with
 |some m=>[.sl .no (m.map msA),.bool true]
 |none=>[.sl .no [],.bool false])/\bs'=g.bs cap
set_option maxHeartbeats 8000000 in
theorem Cy{g:Rg}{cap:Nat}(hcap:g.cls.length<=cap)(hk:RK g){r:Option (List (Int×Int))}(h:Au g=some r):AM.Sem Tryz.prog 153 [.ptr 0 0] (g.bs cap) (DG g r cap):=by
 have hl:=hk.len;have hn:=hk.lim;unfold Au at h;refine dv (by simp) ?_
 conv=>whnf
 repeat' refine gL (.map ?_)<;>conv=>whnf
 refine .row ef (0,0) (by omega) ?_
 conv=>whnf
 skip;simp only[Ys];refine aw.by (fb:=true) (λ_ (i:Nat)=>⟨[(0,.ptr 0 0),(4,.bsl 2 g.nodes.length g.nodes.length),(5,.int .i64 (sU g i:Int)),(6,.int .i64 (i:Int))],rbs g.nodes g.cls cap++[aL msA 2 g.nodes.length (List.replicate g.nodes.length (0,0))],2⟩) (λi=>i<=g.nodes.length) (λi=>g.nodes.length-i) 0 (ZJ _) ?_ ?_
 .rw [show sU g 0=0 from rfl];exact au
 .rintro i q1
  by_cases hi:i<g.nodes.length
  .obtain ⟨c,hc⟩:∃c,g.cls[i]? =some c:=⟨_,ZA (by omega)⟩
   have hci:=D6 g i
   by_cases he:c=i
   .have he':(c:Int)=(i:Int):=by omega
    have h1:=HC (he▸hc)
    conv=>whnf
    repeat' (first|refine gC (gD (cI ?_))|refine gW (wI ?_)|refine gL (.map ?_)|refine gN (nS ?_)|(refine gE ?_;refine eLn ?_))<;>conv=>whnf
    refine⟨i+1,⟨hi,by omega⟩,?_⟩
    rw[h1];exact au
   .have he':¬(c:Int)=(i:Int):=by omega
    have h1:=I9 hc he
    conv=>whnf
    repeat' (first|(refine gC ?_;(refine gD ?_;first|refine cI ?_|refine cJ ?_))|refine gW (wI ?_)|refine gL (.map ?_)|refine gN (nS ?_)|(refine gE ?_;refine eLn ?_))<;>conv=>whnf
    refine⟨i+1,⟨hi,by omega⟩,?_⟩
    rw[h1];exact au
  .obtain rfl:i=g.nodes.length:=by omega
   have hcr:sU g g.nodes.length=kW g:=by unfold sU kW;rw[hl]
   have hcl:=D6 g g.nodes.length;rw[hcr] at hcl|-
   conv=>whnf
   repeat' (first|refine gC (gD (cJ ?_))|refine gL (.map ?_))<;>conv=>whnf
   refine aw.by (fb:=true) (λ_ (q:Nat×List (Int×Int)×Int)=>⟨[(0,.ptr 0 0),(4,.bsl 2 g.nodes.length g.nodes.length),(5,.int .i64 q.2.2)],rbs g.nodes g.cls cap++[aL msA 2 g.nodes.length q.2.1],2⟩) (λq=>uo g q.1 q.2.1 q.2.2=some r/\q.2.1.length=g.nodes.length/\0<=q.2.2/\q.2.2<=4000000000) (λq=>q.1) (g.nodes.length+1,List.replicate g.nodes.length (0,0),(kW g:Int)) ⟨h,Zf ..,by show (0:Int)<=kW g;omega,by show (kW g:Int)<=4000000000;omega⟩ ?_ ?_
   .exact au
   .rintro ⟨f,m,left⟩ ⟨h1,h2,h3,h4⟩;dsimp only at h1 h2 h3 h4|-
    cases f with
    |zero=>cases h1
    |succ f=>
     rw[uo] at h1
     by_cases hp:0<left
     .rw [if_pos hp] at h1
      cases hR:jg g g.nodes.length m left with
      |none=>rw[hR] at h1;cases h1
      |some ml=>
      obtain⟨m1,l1⟩:=ml;rw[hR] at h1;simp only at h1
      conv=>whnf
      repeat' refine gC (gD (cI ?_))<;>conv=>whnf
      refine aw.by (fb:=true) (λ_ (q:Nat×List (Int×Int)×Int)=>⟨[(0,.ptr 0 0),(4,.bsl 2 g.nodes.length g.nodes.length),(5,.int .i64 q.2.2),(7,.int .i64 left),(8,.int .i64 (q.1:Int))],rbs g.nodes g.cls cap++[aL msA 2 g.nodes.length q.2.1],2⟩) (λq=>q.1<=g.nodes.length/\jg g q.1 m left=some (q.2.1,q.2.2)/\q.2.1.length=g.nodes.length/\0<=q.2.2/\q.2.2<=4000000000) (λq=>g.nodes.length-q.1) (0,m,left) ⟨ZJ _,rfl,h2,h3,h4⟩ ?_ ?_
      .exact au
      .rintro ⟨i,m2,l2⟩ ⟨q1,q2,q3,q4,q5⟩;dsimp only at q1 q2 q3 q4 q5|-
       by_cases hi:i<g.nodes.length
       .obtain ⟨⟨m3,l3⟩,hr3⟩:=tr hR (i+1) (by omega)
        have hst:=hr3;rw[jg,q2] at hst;simp only at hst;rw[Dk] at hst
        cases hc:g.cls[i]? with
        |none=>rw[hc] at hst;cases hst
        |some c=>
        rw[hc] at hst;simp only at hst
        cases hy:m2[c]? with
        |none=>rw[hy] at hst;cases hst
        |some y=>
        rw[hy] at hst;simp only at hst;have hclt:=(ZB.1 hy).1
        by_cases hpos:0<y.1
        .rw [if_pos hpos] at hst;cases hst
         conv=>whnf
         repeat' (first|refine gC (gD (cI ?_))|refine gL (.map ?_)|refine gN (nS ?_)|(refine gE ?_;refine eLn ?_))<;>conv=>whnf
         refine ElN.cell ef rfl hy rfl ?_
         conv=>whnf
         repeat' (first|refine gC (gD (cI ?_))|refine gW (wI ?_))<;>conv=>whnf
         refine⟨(i+1,m2,l2),⟨⟨hi,hr3,q3,q4,q5⟩,by show _-(i+1)<_-i;omega⟩,?_⟩
         exact au
        .rw [if_neg hpos] at hst;have hs:=pJ (c:=c) hcap hl hn
         conv=>whnf
         repeat' (first|refine gC (gD (cI ?_))|refine gL (.map ?_)|refine gN (nS ?_)|(refine gE ?_;refine eLn ?_))<;>conv=>whnf
         refine ElN.cell ef rfl hy rfl ?_
         conv=>whnf
         repeat' refine gC (gD (cJ ?_))<;>conv=>whnf
         refine ab.ate [0,1] hs rfl rfl ?_
         cases hsc:g.shape c with
         |none=>
          rw[show oiN none=-1 from rfl];simp only[nj,hsc,wC] at hst
          conv=>whnf
          skip;refine aw.by (fb:=true) (λ_ (u:Unit)=>⟨[(0,.ptr 0 0),(4,.bsl 2 g.nodes.length g.nodes.length),(5,.int .i64 l2),(7,.int .i64 left),(8,.int .i64 (i:Int)),(9,.int .i64 (c:Int)),(10,.int .i64 (-1)),(11,.ptr 3 0),(12,.bool true),(13,.int .i64 0)],rbs g.nodes g.cls cap++[aL msA 2 g.nodes.length m2,.cells [.int .i64 1,.int .i64 1]],2⟩) (λ_=>True) (λ_=>0) () trivial ?_ ?_
          .exact au
          .rintro _ _
           try rw[if_pos (rfl:true=true)] at hst
           by_cases hl2:0<l2
           rotate_left
           .rw [if_neg hl2] at hst;cases hst
           rw[if_pos hl2] at hst;cases hst
           conv=>whnf
           repeat' (first|(refine gC ?_;first|refine cY ?_|refine cN ?_|refine gD (cJ ?_))|refine gN (nS ?_))<;>conv=>whnf
           refine EsN.elem ef (λx=>rfl) (x:=y) (y:=(1,1)) (l:=m2) rfl hy rfl ?_
           conv=>whnf
           repeat' refine gW (wI ?_)<;>conv=>whnf
           refine⟨(i+1,m2.set c (1,1),l2-1),⟨⟨hi,hr3,by rw[Zm];exact q3,by show 0<=l2-1;omega,by show l2-1<=4000000000;omega⟩,by show _-(i+1)<_-i;omega⟩,?_⟩
           refine ah.lay [some 0,some 1,some 2] oko ?_
           conv=>whnf
           refine ah.at_ ?_ rfl
           conv=>whnf
           refine And.intro ?_ ?_<;>conv=>whnf
           all_goals repeat' (first|(refine gV ?_;first|refine vE ?_|refine vI ?_)|(refine gX ?_;first|refine xB ?_|(refine BxN.mk ?_ ?_;(focus (simp[AV.norm,AV.aD,];done))))|exact True.intro)<;>conv=>whnf
         |some k=>
          rw[show oiN (some k)=(k:Int) from rfl]
          cases hx:g.nodes[k]? with
          |none=>simp only[nj,hsc,hx] at hst;cases hst
          |some x=>
          simp only[nj,hsc,hx] at hst;have h6:=hk.six _ _ hx
          cases hm:wC g m2 x.kids (1,1) true with
          |none=>rw[hm] at hst;cases hst
          |some xd=>
          obtain⟨x',d'⟩:=xd;rw[hm] at hst;simp only at hst
          conv=>whnf
          skip;refine aw.by (fb:=true) (λ_ (q:Nat×(Int×Int)×Bool)=>⟨[(0,.ptr 0 0),(4,.bsl 2 g.nodes.length g.nodes.length),(5,.int .i64 l2),(7,.int .i64 left),(8,.int .i64 (i:Int)),(9,.int .i64 (c:Int)),(10,.int .i64 (k:Int)),(11,.ptr 3 0),(12,.bool q.2.2),(13,.int .i64 (q.1:Int))],rbs g.nodes g.cls cap++[aL msA 2 g.nodes.length m2,.cells [.int .i64 q.2.1.1,.int .i64 q.2.1.2]],2⟩) (λq=>q.1<=x.kids.length/\wC g m2 (x.kids.drop q.1) q.2.1 q.2.2=some (x',d')) (λq=>x.kids.length-q.1) (0,(1,1),true) ⟨ZJ _,hm⟩ ?_ ?_
          .exact au
          .rintro ⟨j,⟨x1,x2⟩,d⟩ ⟨w1,w2⟩;dsimp only at w1 w2|-
           by_cases hj:j<x.kids.length
           .obtain ⟨w,hw⟩:∃w,x.kids[j]? =some w:=⟨_,ZA hj⟩;rw[ZH hj,(ZB.1 hw).2,wC] at w2
            cases hcw:g.cls[w]? with
            |none=>rw[hcw] at w2;cases w2
            |some s=>
            rw[hcw] at w2;simp only at w2
            cases hys:m2[s]? with
            |none=>rw[hys] at w2;cases w2
            |some y2=>
            rw[hys] at w2;simp only at w2
            by_cases hb:nJ (x1,x2)/\nJ y2
            rotate_left
            .rw [if_neg hb] at w2;cases w2
            rw[if_pos hb] at w2;obtain⟨⟨b1,b2,b3,b4⟩,b5,b6,b7,b8⟩:=hb;dsimp only at b1 b2 b3 b4;have hwl:=(ZB.1 hcw).1;have hsl:=(ZB.1 hys).1
            cases d with
            |true=>
             rw[Za] at w2
             conv=>whnf
             repeat' (first|refine gC (gD (cI ?_))|refine gL (.map ?_)|refine gN (nS ?_)|refine gI (gM (iE ?_))|(refine gE ?_;refine eLn ?_))<;>conv=>whnf
             refine ElN.elem ef rfl hys ?_
             conv=>whnf
             repeat' (first|refine gC (cY ?_)|refine gW (wI ?_))<;>conv=>whnf
             refine⟨(j+1,vH (x1,x2) y2,decide (0<y2.1)),⟨⟨hj,w2⟩,by show _-(j+1)<_-j;omega⟩,?_⟩
             refine ah.lay [some 0,some 1,some 2,some 3] oko ?_
             conv=>whnf
             refine ah.at_ ?_ rfl
             conv=>whnf
             refine And.intro ?_ ?_<;>conv=>whnf
             all_goals repeat' (first|(refine gV ?_;first|refine vE ?_|refine vI ?_)|(refine gX ?_;first|refine xB ?_|(refine BxN.mk ?_ ?_;(focus (simp[AV.norm,AV.aD,vH];done))))|exact True.intro)<;>conv=>whnf
            |false=>
             conv=>whnf
             repeat' (first|refine gC (gD (cI ?_))|refine gL (.map ?_)|refine gN (nS ?_)|refine gI (gM (iE ?_))|(refine gE ?_;refine eLn ?_))<;>conv=>whnf
             refine ElN.elem ef rfl hys ?_
             conv=>whnf
             repeat' (first|refine gC (cN ?_)|refine gW (wI ?_))<;>conv=>whnf
             refine⟨(j+1,vH (x1,x2) y2,false),⟨⟨hj,w2⟩,by show _-(j+1)<_-j;omega⟩,?_⟩
             refine ah.lay [some 0,some 1,some 2,some 3] oko ?_
             conv=>whnf
             refine ah.at_ ?_ rfl
             conv=>whnf
             refine And.intro ?_ ?_<;>conv=>whnf
             all_goals repeat' (first|(refine gV ?_;first|refine vE ?_|refine vI ?_)|(refine gX ?_;first|refine xB ?_|(refine BxN.mk ?_ ?_;(focus (simp[AV.norm,AV.aD,vH];done))))|exact True.intro)<;>conv=>whnf
           .obtain rfl:j=x.kids.length:=by omega
            rw[Zj,wC] at w2;cases w2
            cases d' with
            |true=>
             try rw[if_pos (rfl:true=true)] at hst
             by_cases hl2:0<l2
             rotate_left
             .rw [if_neg hl2] at hst;cases hst
             rw[if_pos hl2] at hst;cases hst
             conv=>whnf
             repeat' (first|(refine gC ?_;first|refine cY ?_|(refine gD ?_;first|refine cI ?_|refine cJ ?_))|refine gL (.map ?_)|refine gN (nS ?_)|refine gI (gM (iE ?_)))<;>conv=>whnf
             refine EsN.elem ef (λx=>rfl) (x:=y) (y:=(x1,x2)) (l:=m2) rfl hy rfl ?_
             conv=>whnf
             repeat' refine gW (wI ?_)<;>conv=>whnf
             refine⟨(i+1,m2.set c (x1,x2),l2-1),⟨⟨hi,hr3,by rw[Zm];exact q3,by show 0<=l2-1;omega,by show l2-1<=4000000000;omega⟩,by show _-(i+1)<_-i;omega⟩,?_⟩
             refine ah.lay [some 0,some 1,some 2] oko ?_
             conv=>whnf
             refine ah.at_ ?_ rfl
             conv=>whnf
             refine And.intro ?_ ?_<;>conv=>whnf
             all_goals repeat' (first|(refine gV ?_;first|refine vE ?_|refine vI ?_)|(refine gX ?_;first|refine xB ?_|(refine BxN.mk ?_ ?_;(focus (simp[AV.norm,AV.aD,];done))))|exact True.intro)<;>conv=>whnf
            |false=>
             rw[if_neg YY] at hst;cases hst
             conv=>whnf
             repeat' (first|(refine gC ?_;first|refine cN ?_|(refine gD ?_;first|refine cI ?_|refine cJ ?_))|refine gW (wI ?_)|refine gL (.map ?_)|refine gI (gM (iE ?_)))<;>conv=>whnf
             refine⟨(i+1,m2,l2),⟨⟨hi,hr3,q3,q4,q5⟩,by show _-(i+1)<_-i;omega⟩,?_⟩
             refine ah.lay [some 0,some 1,some 2] oko ?_
             conv=>whnf
             exact au
       .obtain rfl:i=g.nodes.length:=by omega
        rw[hR] at q2;cases q2
        by_cases he:l1=left
        .rw [if_pos he] at h1;cases h1
         conv=>whnf
         repeat' (first|(refine gC ?_;(refine gD ?_;first|refine cI ?_|refine cJ ?_))|refine gL (.map ?_))<;>conv=>whnf
         refine af.lay [some 0,some 1] oko ?_
         conv=>whnf
         repeat' refine af.nrm ?_<;>conv=>whnf
         exact⟨rfl,rfl⟩
        .rw [if_neg he] at h1
         conv=>whnf
         repeat' (first|refine gC (gD (cJ ?_))|refine gL (.map ?_))<;>conv=>whnf
         refine⟨(f,m1,l1),⟨⟨h1,q3,q4,q5⟩,XB _⟩,?_⟩;exact au
     .rw [if_neg hp] at h1;cases h1
      conv=>whnf
      repeat' refine gC (gD (cJ ?_))<;>conv=>whnf
      refine af.wk (aB.froze ef _ 2 (b:=2) (l:=m) rfl rfl h2.symm) ?_
      conv=>whnf
      refine af.lay [some 0,some 1] oko ?_
      conv=>whnf
      repeat' refine af.nrm ?_<;>conv=>whnf
      exact⟨rfl,rfl⟩
end Go.CK
