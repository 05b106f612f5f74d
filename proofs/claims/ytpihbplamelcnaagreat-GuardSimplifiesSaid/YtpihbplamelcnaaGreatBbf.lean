/-
  Texts of this aZ joined (wip/gen/bundle.py),those declarations only that are needed:UrF UrG UrH. By an AI agent.
-/
import Derived.Test.YtpihbplamelcnaaGreatBbe
set_option linter.unusedSimpArgs false
set_option linter.unusedVariables false
set_option maxRecDepth 100000
namespace Go.CK
open Go.AM Go.Proofs
def Rg.bs2(g:Rg)(cap:Nat):List Box:=[.cells [.sl (.own 4) (g.nodes.map Nd.avr),.bsl 2 g.cls.length cap],.dead,aS bP 1 cap g.cls]
def NM(g:Rg)(cap:Nat)(t:Tm)(x y:Box)(kd:AV):List Box:=[.cells [.sl (.own 4) (g.nodes.map Nd.avr),.bsl 4 g.cls.length cap],.dead,.cells [.int .i64 t.kind,.int .i64 t.num,.str t.name,.sl .no (t.args.map Tm.av)],.cells [.int .i64 t.kind,.int .i64 t.num,.str t.name,kd],x,y]
def p7(g:Rg)(t:Tm)(j cap kc:Nat):St:=⟨[(0,.ptr 0 0),(3,.ptr 2 0),(6,.ptr 3 0),(7,.int .i64 (j:Int))],
 if j<t.args.length then NM (bA g (t.args.take j)).1 cap t (aS bP 1 cap (bA g (t.args.take j)).1.cls) (aS bP 1 kc (bA g (t.args.take j)).2) (.bsl 5 (bA g (t.args.take j)).2.length kc)
 else NM (bA g t.args).1 cap t (aS bP 1 cap (bA g t.args).1.cls) .dead (.sl .no ((bA g t.args).2.map bP)),2⟩
def np(g:Rg)(t:Tm)(r:AV)(bs':List Box):Prop:=r=.int .i64 ((bG g t).2:Int)/\∃cap',(bG g t).1.cls.length<=cap'/\bs'=(bG g t).1.bs2 cap'
theorem E6{g:Rg}{t:Tm}{l:List Nat}{k:Nat}:(lq g t l).bs2 k=[.cells [.sl (.own 4) (g.nodes.map Nd.avr++[Nd.avr ⟨t,l⟩]),.bsl 2 (g.cls++[g.nodes.length]).length k],.dead,aS bP 1 k (g.cls++[g.nodes.length])]:=by
 simp only[lq,Rg.bs2,zu,zP,Zf]
set_option maxHeartbeats 2000000 in
theorem Ip(t:Tm):t.Vok->∀(g:Rg) (cap:Nat),g.cls.length<=cap->g.nodes.length+t.nodes<=4000000000->g.cls.length+t.nodes<=4000000000->AM.Sem Tryz.prog 159 [.ptr 0 0,t.avw] (g.bs cap) (np g t):=by
 induction t using Tm.bD with
 |h k n s l ih=>
 intro hv g cap hcap hn hu;generalize ha:Tm.mk k n s l=t at hv hn hu|-;replace ih:∀x∈t.args,x.Vok->∀(g:Rg) (cap:Nat),g.cls.length<=cap->g.nodes.length+x.nodes<=4000000000->g.cls.length+x.nodes<=4000000000->AM.Sem Tryz.prog 159 [.ptr 0 0,x.avw] (g.bs cap) (np g x):=by subst ha;exact ih
 have hnl:Tm.aj t.args+1<=t.nodes:=by subst ha;simp only[Tm.nodes,Tm.args];omega
 clear ha;refine fe (by simp) ?_
 by_cases hk1:t.kind=1
 .conv=>whnf
  repeat' refine gC (gD (cI ?_))<;>conv=>whnf
  refine aD.by (fb:=true) (λ_ (j:Nat)=>⟨[(0,.ptr 0 0),(3,.ptr 2 0),(5,.int .i64 (j:Int))],g.bs cap++[.cells [.int .i64 t.kind,.int .i64 t.num,.str t.name,.sl .no (t.args.map Tm.av)]],2⟩) (λj=>j<=g.nodes.length/\∀i,i<j->g.isV t.num i=false) (λj=>g.nodes.length-j) 0 ⟨zJ _,λi h=>by omega⟩ ?_ ?_
  .exact aH
  .rintro j ⟨q1,q2⟩
   by_cases hj:j<g.nodes.length
   .obtain ⟨x,hx⟩:∃x,g.nodes[j]? =some x:=⟨_,zA hj⟩;have hs:g.isV t.num j=(decide (x.t.kind=1)&&decide (x.t.num=t.num)):=by unfold Rg.isV;rw[hx]
    have hno:¬(x.t.kind=1/\x.t.num=t.num)->∀k,k<j+1->g.isV t.num k=false:=λh k hk=>by
     by_cases e:k=j
     .subst e;rw[hs];simpa using h
     .exact q2 k (by omega)
    by_cases h1:x.t.kind=1<;>by_cases h2:x.t.num=t.num
    .have he:=Bl hj (by rw[hs,decide_eq_true h1,decide_eq_true h2];rfl) q2
     conv=>whnf
     repeat' (first|refine gC (gD (cI ?_))|refine gL (.map ?_)|refine gI (gM (iE ?_)))<;>conv=>whnf
     refine ae.lay [some 0,none,some 1] oko ?_
     conv=>whnf
     repeat' refine ae.nrm ?_<;>conv=>whnf
     rw[E5 hk1 he];exact⟨rfl,cap,hcap,rfl⟩
    all_goals
     conv=>whnf
     repeat' (first|(refine gC ?_;first|refine cN ?_|(refine gD ?_;first|refine cI ?_|refine cJ ?_))|refine gW (wI ?_)|refine gL (.map ?_)|refine gI (gM (iE ?_)))<;>conv=>whnf
     refine⟨j+1,⟨⟨hj,hno (λe=>by first|exact h1 e.1|exact h2 e.2)⟩,by omega⟩,?_⟩
     exact aH
   .obtain rfl:j=g.nodes.length:=by omega
    have hnew:t.kind=1->cV (g.isV t.num) g.nodes.length=none:=λ_=>gO.2 q2
    conv=>whnf
    repeat' (first|refine gC (gD (cJ ?_))|refine gL (.map ?_))<;>conv=>whnf
    rw[show np g t=λr bs'=>r=.int .i64 ((bA g t.args).1.nodes.length:Int)/\∃cap',(bA g t.args).1.cls.length+1<=cap'/\bs'=(lq (bA g t.args).1 t (bA g t.args).2).bs2 cap' by funext r bs';rw[np,xq hnew];simp only[lq,zC,zU]]
    refine aD.by (fb:=true) (λ_ (q:Nat×Nat×Nat)=>p7 g t q.1 q.2.1 q.2.2) (λq=>q.1<=t.args.length/\(bA g (t.args.take q.1)).1.cls.length<=q.2.1/\(bA g (t.args.take q.1)).2.length<=q.2.2) (λq=>t.args.length-q.1) (0,cap,0) ⟨zJ _,by rw[ZL,bA];exact hcap,by rw[ZL,bA];exact zJ _⟩ ?_ ?_
    .dsimp only;rw[p7]
     by_cases h0:0<t.args.length
     .rw [if_pos h0,ZL,bA];dsimp only;refine ah.dF (.bx 3 3) rfl rfl ?_
      conv=>whnf
      refine ah.lay [some 0,none,some 2,some 3,some 1,some 4] oko ?_
      conv=>whnf
      refine ah.at_ ?_ rfl
      conv=>whnf
      refine And.intro ?_ ?_<;>conv=>whnf
      all_goals repeat' (first|(refine gV ?_;first|refine vE ?_|refine vI ?_)|(refine gX ?_;first|refine xB ?_|(refine BxN.mk ?_ ?_;(focus (simp[AV.norm,AV.ax,cellsOf];done))))|exact True.intro)<;>conv=>whnf
     .have he:t.args=[]:=zL (by omega)
      rw[if_neg h0,he,bA];dsimp only;refine ah.dF (.bx 3 3) rfl rfl ?_
      conv=>whnf
      refine ah.dq oo 3 3 (b:=4) (m:=0) (k:=0) (k0:=0) (l:=[]) rfl rfl rfl (zG _) ?_
      conv=>whnf
      refine ah.lay [some 0,none,some 2,some 3,some 1,none] oko ?_
      conv=>whnf
      refine ah.at_ ?_ rfl
      conv=>whnf
      refine And.intro ?_ ?_<;>conv=>whnf
      all_goals repeat' (first|(refine gV ?_;first|refine vE ?_|refine vI ?_)|(refine gX ?_;first|refine xB ?_|(refine BxN.mk ?_ ?_;(focus (simp[AV.norm,AV.ax,he];done))))|exact True.intro)<;>conv=>whnf
    .rintro ⟨j,cj,kc⟩ ⟨q1,q2,q3⟩;dsimp only at q1 q2 q3|-
     by_cases hj:j<t.args.length
     .obtain ⟨x,hx⟩:∃x,t.args[j]? =some x:=⟨_,zA hj⟩;have htk:t.args.take (j+1)=t.args.take j++[x]:=by rw[ZC,hx];rfl
      have hs:=tJ g (t.args.take j) x;rw[<-htk] at hs;have hl:=ma g (t.args.take j);have hlx:=bU t.args hx;have hxs:=ih x (zE hx) (hv.kids (zE hx));have hkj:=tK g (t.args.take j);rw[zn,yU (by omega)] at hkj
      have hlj:=bO t.args;rw[p7,if_pos hj];generalize bA g (t.args.take j)=a at hs hl hkj q2 q3|-;obtain⟨ga,ka⟩:=a;dsimp only at hs hl hkj q2 q3|-
      conv=>whnf
      repeat' (first|refine gC (gD (cI ?_))|refine gL (.map ?_)|refine gI (gT (iA ?_)))<;>conv=>whnf
      refine aa.at [0,4] (hxs ga cj q2 (by omega) (by omega)) rfl rfl ?_ oko ?_
      .rintro r bs' ⟨rfl,cp,hcp,rfl⟩;exact⟨rfl,rfl,oko⟩
      rintro r bs' ⟨rfl,cp,hcp,rfl⟩;generalize bG ga x=b at hs hcp|-;obtain⟨gb,kb⟩:=b;dsimp only at hs hcp|-
      conv=>whnf
      repeat' (first|refine gW (wI ?_)|(refine gP ?_;refine aOn λk hk=>?_)|refine gPr (pS ?_))<;>conv=>whnf
      refine⟨(j+1,cp,k),⟨⟨hj,by dsimp only;rw[hs];exact hcp,by dsimp only;rw[hs];exact hk⟩,by show _-(j+1)<_-j;omega⟩,?_⟩
      dsimp only;rw[p7]
      by_cases hj1:j+1<t.args.length
      .rw [if_pos hj1,hs];dsimp only;refine ah.lay [some 0,none,some 2,some 3,some 6,some 7] oko ?_
       conv=>whnf
       exact aH
      .rw [zl (by omega)] at hs
       rw[if_neg hj1,hs];dsimp only;refine ah.dq oo 3 3 (b:=7) (l:=ka++[kb]) rfl rfl rfl (zG _) ?_;rw[zz]
       conv=>whnf
       refine ah.lay [some 0,none,some 2,some 3,some 6,none] oko ?_
       conv=>whnf
       exact aH
     .obtain rfl:j=t.args.length:=by omega
      have hl:=ma g t.args;rw[p7,if_neg hj];rw[zl (zG _)] at q2;generalize bA g t.args=a at hl q2|-;obtain⟨ga,ka⟩:=a;dsimp only at hl q2|-
      conv=>whnf
      repeat' (first|refine gC (gD (cJ ?_))|refine gW (wI ?_)|(refine gL ?_;first|refine .map ?_|refine .one ?_|refine .app ?_)|refine gN (nS ?_)|refine gPr (pS ?_))<;>conv=>whnf
      rw[Int.add_sub_cancel]
      conv=>whnf
      repeat' (first|refine gW (wI ?_)|(refine gL ?_;first|refine .map ?_|refine .one ?_|refine .app ?_)|(refine gP ?_;refine aOn λk hk=>?_)|refine gPr (pS ?_))<;>conv=>whnf
      refine ae.lay [some 0,none,some 6] oko ?_
      conv=>whnf
      repeat' refine ae.nrm ?_<;>conv=>whnf
      refine⟨by simp,k,by rw[zC] at hk;exact hk,?_⟩
      rw[E6];rfl
 .have hnew:t.kind=1->cV (g.isV t.num) g.nodes.length=none:=λh=>absurd h hk1
  conv=>whnf
  repeat' refine gC (gD (cJ ?_))<;>conv=>whnf
  rw[show np g t=λr bs'=>r=.int .i64 ((bA g t.args).1.nodes.length:Int)/\∃cap',(bA g t.args).1.cls.length+1<=cap'/\bs'=(lq (bA g t.args).1 t (bA g t.args).2).bs2 cap' by funext r bs';rw[np,xq hnew];simp only[lq,zC,zU]]
  refine aD.by (fb:=true) (λ_ (q:Nat×Nat×Nat)=>p7 g t q.1 q.2.1 q.2.2) (λq=>q.1<=t.args.length/\(bA g (t.args.take q.1)).1.cls.length<=q.2.1/\(bA g (t.args.take q.1)).2.length<=q.2.2) (λq=>t.args.length-q.1) (0,cap,0) ⟨zJ _,by rw[ZL,bA];exact hcap,by rw[ZL,bA];exact zJ _⟩ ?_ ?_
  .dsimp only;rw[p7]
   by_cases h0:0<t.args.length
   .rw [if_pos h0,ZL,bA];dsimp only;refine ah.dF (.bx 3 3) rfl rfl ?_
    conv=>whnf
    refine ah.lay [some 0,none,some 2,some 3,some 1,some 4] oko ?_
    conv=>whnf
    refine ah.at_ ?_ rfl
    conv=>whnf
    refine And.intro ?_ ?_<;>conv=>whnf
    all_goals repeat' (first|(refine gV ?_;first|refine vE ?_|refine vI ?_)|(refine gX ?_;first|refine xB ?_|(refine BxN.mk ?_ ?_;(focus (simp[AV.norm,AV.ax,cellsOf];done))))|exact True.intro)<;>conv=>whnf
   .have he:t.args=[]:=zL (by omega)
    rw[if_neg h0,he,bA];dsimp only;refine ah.dF (.bx 3 3) rfl rfl ?_
    conv=>whnf
    refine ah.dq oo 3 3 (b:=4) (m:=0) (k:=0) (k0:=0) (l:=[]) rfl rfl rfl (zG _) ?_
    conv=>whnf
    refine ah.lay [some 0,none,some 2,some 3,some 1,none] oko ?_
    conv=>whnf
    refine ah.at_ ?_ rfl
    conv=>whnf
    refine And.intro ?_ ?_<;>conv=>whnf
    all_goals repeat' (first|(refine gV ?_;first|refine vE ?_|refine vI ?_)|(refine gX ?_;first|refine xB ?_|(refine BxN.mk ?_ ?_;(focus (simp[AV.norm,AV.ax,he];done))))|exact True.intro)<;>conv=>whnf
  .rintro ⟨j,cj,kc⟩ ⟨q1,q2,q3⟩;dsimp only at q1 q2 q3|-
   by_cases hj:j<t.args.length
   .obtain ⟨x,hx⟩:∃x,t.args[j]? =some x:=⟨_,zA hj⟩;have htk:t.args.take (j+1)=t.args.take j++[x]:=by rw[ZC,hx];rfl
    have hs:=tJ g (t.args.take j) x;rw[<-htk] at hs;have hl:=ma g (t.args.take j);have hlx:=bU t.args hx;have hxs:=ih x (zE hx) (hv.kids (zE hx));have hkj:=tK g (t.args.take j);rw[zn,yU (by omega)] at hkj
    have hlj:=bO t.args;rw[p7,if_pos hj];generalize bA g (t.args.take j)=a at hs hl hkj q2 q3|-;obtain⟨ga,ka⟩:=a;dsimp only at hs hl hkj q2 q3|-
    conv=>whnf
    repeat' (first|refine gC (gD (cI ?_))|refine gL (.map ?_)|refine gI (gT (iA ?_)))<;>conv=>whnf
    refine aa.at [0,4] (hxs ga cj q2 (by omega) (by omega)) rfl rfl ?_ oko ?_
    .rintro r bs' ⟨rfl,cp,hcp,rfl⟩;exact⟨rfl,rfl,oko⟩
    rintro r bs' ⟨rfl,cp,hcp,rfl⟩;generalize bG ga x=b at hs hcp|-;obtain⟨gb,kb⟩:=b;dsimp only at hs hcp|-
    conv=>whnf
    repeat' (first|refine gW (wI ?_)|(refine gP ?_;refine aOn λk hk=>?_)|refine gPr (pS ?_))<;>conv=>whnf
    refine⟨(j+1,cp,k),⟨⟨hj,by dsimp only;rw[hs];exact hcp,by dsimp only;rw[hs];exact hk⟩,by show _-(j+1)<_-j;omega⟩,?_⟩
    dsimp only;rw[p7]
    by_cases hj1:j+1<t.args.length
    .rw [if_pos hj1,hs];dsimp only;refine ah.lay [some 0,none,some 2,some 3,some 6,some 7] oko ?_
     conv=>whnf
     exact aH
    .rw [zl (by omega)] at hs
     rw[if_neg hj1,hs];dsimp only;refine ah.dq oo 3 3 (b:=7) (l:=ka++[kb]) rfl rfl rfl (zG _) ?_;rw[zz]
     conv=>whnf
     refine ah.lay [some 0,none,some 2,some 3,some 6,none] oko ?_
     conv=>whnf
     exact aH
   .obtain rfl:j=t.args.length:=by omega
    have hl:=ma g t.args;rw[p7,if_neg hj];rw[zl (zG _)] at q2;generalize bA g t.args=a at hl q2|-;obtain⟨ga,ka⟩:=a;dsimp only at hl q2|-
    conv=>whnf
    repeat' (first|refine gC (gD (cJ ?_))|refine gW (wI ?_)|(refine gL ?_;first|refine .map ?_|refine .one ?_|refine .app ?_)|refine gN (nS ?_)|refine gPr (pS ?_))<;>conv=>whnf
    rw[Int.add_sub_cancel]
    conv=>whnf
    repeat' (first|refine gW (wI ?_)|(refine gL ?_;first|refine .map ?_|refine .one ?_|refine .app ?_)|(refine gP ?_;refine aOn λk hk=>?_)|refine gPr (pS ?_))<;>conv=>whnf
    refine ae.lay [some 0,none,some 6] oko ?_
    conv=>whnf
    repeat' refine ae.nrm ?_<;>conv=>whnf
    refine⟨by simp,k,by rw[zC] at hk;exact hk,?_⟩
    rw[E6];rfl
end Go.CK
namespace Go.CK
open Go.AM Go.Proofs
def tv(l:List Nat)(x y i:Nat):List Nat:=(l.take i).map (λc=>if c=y then x else c)++l.drop i
theorem wH(l:List Nat)(x y i:Nat):(tv l x y i).length=l.length:=by
 unfold tv;rw[zC,zF,zn,Zh];omega
theorem El{l:List Nat}{x y i v:Nat}(h:l[i]? =some v):(tv l x y i)[i]? =some v:=by
 have hi:=(zB.1 h).1;unfold tv;rw[zZ (by rw[zF,zn];omega),zF,zn,List.getElem?_drop,<-h]
 congr 1;omega
theorem AT{l:List Nat}{x y i v:Nat}(h:l[i]? =some v):tv l x y (i+1)=(tv l x y i).set i (if v=y then x else v):=by
 have hi:=(zB.1 h).1;have hd:l.drop i=v::l.drop (i+1):=by rw[zH hi,(zB.1 h).2]
 unfold tv;rw[hd,yd _ _ (by rw[zF,zn];omega),zF,zn,show i-min i l.length=0 by omega,List.set_cons_zero,ZC,h,Option.toList_some,zu,zg];rfl
theorem Jf{l:List Nat}{x y i v:Nat}(h:l[i]? =some v)(hv:¬v=y):tv l x y (i+1)=tv l x y i:=by
 rw[AT h,if_neg hv];obtain⟨h1,h2⟩:=zB.1 (El (x:=x) (y:=y) h);rw[<-h2];exact List.set_getElem_self _
theorem K0(g:Rg)(x y:Nat):tv g.cls x y g.cls.length=(ja g x y).cls:=by
 unfold tv ja;rw[zz,zj,zy]
theorem wJ(g:Rg)(x y:Nat):(ja g x y).nodes=g.nodes:=rfl
theorem wS{M:Rg->Nat->Nat->Option (Rg×Bool)}(hM:∀{g a b g' r},M g a b=some (g',r)->g'.nodes=g.nodes/\g'.cls.length=g.cls.length):∀{l:List (Nat×Nat)} {g g':Rg} {r:Bool},l4 M g l=some (g',r)->g'.nodes=g.nodes/\g'.cls.length=g.cls.length
 |[],g,g',r,h=>by cases h;exact⟨rfl,rfl⟩
 |(a,b)::l,g,g',r,h=>by
  rw[l4] at h;split at h
  .cases h
  .rename_i h1;cases h;exact hM h1
  .rename_i h1;have h2:=hM h1;have h3:=wS hM h;exact⟨h3.1.trans h2.1,h3.2.trans h2.2⟩
theorem qC:∀{f:Nat} {g:Rg} {a b:Nat} {g':Rg} {r:Bool},kg f g a b=some (g',r)->g'.nodes=g.nodes/\g'.cls.length=g.cls.length
 |0,g,a,b,g',r,h=>by cases h
 |f+1,g,a,b,g',r,h=>by
  have hm:∀x y,(ja g x y).nodes=g.nodes/\(ja g x y).cls.length=g.cls.length:=λx y=>⟨rfl,zF ..⟩;rw[kg] at h;split at h
  .split at h
   .cases h;exact⟨rfl,rfl⟩
   .split at h
    .split at h
     .split at h
      .have h3:=wS (M:=kg f) (λ{g a b g' r} h=>qC (f:=f) h) h;exact⟨h3.1.trans (hm _ _).1,h3.2.trans (hm _ _).2⟩
      .cases h;exact hm _ _
     .cases h
    .cases h;exact hm _ _
  .cases h
set_option maxHeartbeats 4000000 in
theorem OC:∀(f:Nat) {g g':Rg} {a b cap:Nat} {r:Bool},kg f g a b=some (g',r)->g.cls.length<=cap->g.cls.length=g.nodes.length->g.nodes.length<=4000000000->(∀(i:Nat) (x:Nd),g.nodes[i]? =some x->x.kids.length<=6)->AM.Sem Tryz.prog 160 [.ptr 0 0,.int .i64 (a:Int),.int .i64 (b:Int)] (g.bs cap) λq bs'=>q=.bool r/\bs'=g'.bs cap:=by
 intro f
 induction f with
 |zero=>intro g g' a b cap r h;cases h
 |succ f ih=>
  intro g g' a b cap r h hcap hl hn h6;rw[kg] at h
  cases hx:g.cls[a]? with
  |none=>rw[hx] at h;cases h
  |some x=>
  cases hy:g.cls[b]? with
  |none=>rw[hx,hy] at h;cases h
  |some y=>
  rw[hx,hy] at h;simp only at h;have ha:=(zB.1 hx).1;have hb:=(zB.1 hy).1;refine fC (by simp) ?_
  have hsx:=rF (c:=x) hcap hl hn;have hsy:=rF (c:=y) hcap hl hn
  by_cases hxy:x=y
  .rw [if_pos hxy] at h;cases h;have hxy':(x:Int)=(y:Int):=by omega
   conv=>whnf
   repeat' (first|refine gC (gD (cI ?_))|refine gN (nS ?_)|(refine gE ?_;refine eLn ?_)|refine ae.nrm ?_)<;>conv=>whnf
   exact⟨rfl,rfl⟩
  .rw [if_neg hxy] at h;have hxy':¬(x:Int)=(y:Int):=by omega
   conv=>whnf
   repeat' (first|(refine gF ?_;first|refine aa.to (hsx) ?_|refine aa.to (hsy) ?_)|refine gC (gD (cJ ?_))|refine gN (nS ?_)|(refine gE ?_;refine eLn ?_))<;>conv=>whnf
   refine aD.by (fb:=true) (λ_ (i:Nat)=>⟨[(0,.ptr 0 0),(7,.int .i64 (x:Int)),(8,.int .i64 (y:Int)),(9,.int .i64 (oiN (g.shape x))),(10,.int .i64 (oiN (g.shape y))),(11,.int .i64 (i:Int))],rbs g.nodes (tv g.cls x y i) cap,2⟩) (λi=>i<=g.cls.length) (λi=>g.cls.length-i) 0 (zJ _) ?_ ?_
   .refine ah.at_ ?_ rfl
    conv=>whnf
    refine And.intro ?_ ?_<;>conv=>whnf
    all_goals repeat' (first|(refine gV ?_;first|refine vE ?_|refine vI ?_)|(refine gX ?_;first|refine xB ?_|(refine BxN.mk ?_ ?_;(focus (simp[AV.norm,AV.ax,tv];done))))|exact True.intro)<;>conv=>whnf
   .rintro i q1
    by_cases hi:i<g.cls.length
    .obtain ⟨v,hv⟩:∃v,g.cls[i]? =some v:=⟨_,zA hi⟩;have hget:=El (x:=x) (y:=y) hv;have hstep:=AT (x:=x) (y:=y) hv;have hsame:=Jf (x:=x) (y:=y) hv;have hlen:=wH g.cls x y i;have hlen1:=wH g.cls x y (i+1)
     by_cases hvy:v=y
     .have hvy':(v:Int)=(y:Int):=by omega
      rw[if_pos hvy] at hstep
      conv=>whnf
      repeat' (first|refine gC (gD (cI ?_))|refine gW (wI ?_)|refine gN (nS ?_)|(refine gE ?_;refine eLn ?_)|refine gS (eSn ?_))<;>conv=>whnf
      refine⟨i+1,⟨hi,by omega⟩,?_⟩
      rw[hstep];refine ah.at_ ?_ rfl
      conv=>whnf
      refine And.intro ?_ ?_<;>conv=>whnf
      all_goals repeat' (first|(refine gV ?_;first|refine vE ?_|refine vI ?_)|(refine gX ?_;first|refine xB ?_|(refine BxN.mk ?_ ?_;(focus (simp[AV.norm,AV.ax,];done))))|exact True.intro)<;>conv=>whnf
     .have hvy':¬(v:Int)=(y:Int):=by omega
      conv=>whnf
      repeat' (first|(refine gC ?_;(refine gD ?_;first|refine cI ?_|refine cJ ?_))|refine gW (wI ?_)|refine gN (nS ?_)|(refine gE ?_;refine eLn ?_))<;>conv=>whnf
      refine⟨i+1,⟨hi,by omega⟩,?_⟩
      rw[hsame hvy];exact aH
    .obtain rfl:i=g.cls.length:=by omega
     have hlen:=wH g.cls x y g.cls.length;rw[K0] at hlen|-
     cases hsm:g.shape x with
     |none=>
      rw[hsm] at h;cases h;rw[show oiN none=-1 from rfl]
      conv=>whnf
      repeat' (first|(refine gC ?_;first|refine cY ?_|(refine gD ?_;first|refine cI ?_|refine cJ ?_))|refine ae.nrm ?_)<;>conv=>whnf
      all_goals exact⟨rfl,rfl⟩
     |some m=>
      rw[hsm] at h;rw[show oiN (some m)=(m:Int) from rfl]
      cases hsn:g.shape y with
      |none=>
       rw[hsn] at h;cases h;rw[show oiN none=-1 from rfl]
       conv=>whnf
       repeat' (first|(refine gC ?_;(refine gD ?_;first|refine cI ?_|refine cJ ?_))|refine ae.nrm ?_)<;>conv=>whnf
       all_goals exact⟨rfl,rfl⟩
      |some n=>
       rw[hsn] at h;rw[show oiN (some n)=(n:Int) from rfl];simp only at h
       cases hp:g.nodes[m]? with
       |none=>rw[hp] at h;cases h
       |some p=>
       cases hq:g.nodes[n]? with
       |none=>rw[hp,hq] at h;cases h
       |some q=>
       rw[hp,hq] at h;simp only at h;have hp6:=h6 _ _ hp;have hq6:=h6 _ _ hq
       cases hal:qT p q with
       |false=>
        rw[hal,if_neg Za] at h;cases h
        conv=>whnf
        repeat' (first|(refine gC ?_;first|refine cY ?_|refine .not ?_|(refine gD ?_;first|refine cI ?_|refine cJ ?_)|refine al.dec (λhc=>?_) (λhc=>?_))|refine gL (.map ?_)|refine gI (gM (iE ?_))|refine BL.mk ?_ ?_)<;>conv=>whnf
        all_goals first
         |(refine ae.lay [some 0,some 1] oko ?_;conv=>whnf)
         |(exfalso;revert hal;simp[qT, *];done)
         |(exfalso;revert hal;simp[qT, *];omega)
        conv=>whnf
        repeat' refine ae.nrm ?_<;>conv=>whnf
        all_goals exact⟨rfl,rfl⟩
       |true=>
        rw[hal,if_pos rfl] at h
        obtain⟨k1,k2,k3,k4⟩:p.t.kind=q.t.kind/\p.t.num=q.t.num/\p.t.name=q.t.name/\p.kids.length=q.kids.length:=by
         simpa only[qT,zD,decide_eq_true_eq] using hal
        conv=>whnf
        repeat' (first|(refine gC ?_;first|refine .not ?_|(refine gD ?_;first|refine cI ?_|refine cJ ?_))|refine gL (.map ?_)|refine gI (gM (iE ?_))|refine BL.mk ?_ ?_)<;>conv=>whnf
        .refine aD.by (fb:=true) (λ_ (q':Nat×Rg)=>⟨[(0,.ptr 0 0),(12,.ptr 2 0),(13,.ptr 3 0),(14,.int .i64 (q'.1:Int))],q'.2.bs cap++[.cells [.int .i64 p.t.kind,.int .i64 p.t.num,.str p.t.name,.sl .no (p.kids.map bP)],.cells [.int .i64 q.t.kind,.int .i64 q.t.num,.str q.t.name,.sl .no (q.kids.map bP)]],2⟩) (λq'=>q'.1<=p.kids.length/\l4 (kg f) q'.2 ((p.kids.zip q.kids).drop q'.1)=some (g',r)/\q'.2.nodes=g.nodes/\q'.2.cls.length=g.cls.length) (λq'=>p.kids.length-q'.1) (0,ja g x y) ⟨zJ _,h,rfl,zF ..⟩ ?_ ?_
         .refine ah.lay [some 0,some 1,some 2,some 3] oko ?_
          conv=>whnf
          refine ah.at_ ?_ rfl
          conv=>whnf
          refine And.intro ?_ ?_<;>conv=>whnf
          all_goals repeat' (first|(refine gV ?_;first|refine vE ?_|refine vI ?_)|(refine gX ?_;first|refine xB ?_|(refine BxN.mk ?_ ?_;(focus (simp[AV.norm,AV.ax,wJ];done))))|exact True.intro)<;>conv=>whnf
         .rintro ⟨j,gj⟩ ⟨q1,q2,q3,q4⟩;dsimp only at q1 q2 q3 q4|-
          by_cases hj:j<p.kids.length
          .obtain ⟨w1,hw1⟩:∃w,p.kids[j]? =some w:=⟨_,zA hj⟩;obtain⟨w2,hw2⟩:∃w,q.kids[j]? =some w:=⟨_,zA (by omega)⟩
           have hz:(p.kids.zip q.kids)[j]? =some (w1,w2):=ZU.2 ⟨hw1,hw2⟩;have hzl:j<(p.kids.zip q.kids).length:=(zB.1 hz).1;rw[zH hzl,(zB.1 hz).2,l4] at q2
           cases hm:kg f gj w1 w2 with
           |none=>rw[hm] at q2;cases q2
           |some gb=>
            obtain⟨g4,b4⟩:=gb;rw[hm] at q2;have hkp:=qC hm;have hcall:=ih (cap:=cap) hm (by omega) (by rw[q4,q3];exact hl) (by rw[q3];exact hn) (by rw[q3];exact h6)
            conv=>whnf
            repeat' (first|refine gC (gD (cI ?_))|refine gL (.map ?_)|refine gI (gM (iE ?_)))<;>conv=>whnf
            refine aa.ate [0,1] hcall rfl rfl ?_
            cases b4 with
            |false=>
             cases q2
             conv=>whnf
             repeat' (refine gC ?_;first|refine cN ?_|refine .not ?_)<;>conv=>whnf
             refine ae.lay [some 0,some 1] oko ?_
             conv=>whnf
             repeat' refine ae.nrm ?_<;>conv=>whnf
             exact⟨rfl,rfl⟩
            |true=>
             simp only at q2
             conv=>whnf
             repeat' (first|(refine gC ?_;first|refine cY ?_|refine .not ?_)|refine gW (wI ?_))<;>conv=>whnf
             refine⟨(j+1,g4),⟨⟨hj,q2,hkp.1.trans q3,hkp.2.trans q4⟩,by show _-(j+1)<_-j;omega⟩,?_⟩
             exact aH
          .obtain rfl:j=p.kids.length:=by omega
           rw[Zm (by rw[yV];omega),l4] at q2
           cases q2
           conv=>whnf
           repeat' (first|refine gC (gD (cJ ?_))|refine gL (.map ?_))<;>conv=>whnf
           refine ae.lay [some 0,some 1] oko ?_
           conv=>whnf
           repeat' refine ae.nrm ?_<;>conv=>whnf
           exact⟨rfl,rfl⟩
        .refine aD.by (fb:=true) (λ_ (q':Nat×Rg)=>⟨[(0,.ptr 0 0),(12,.ptr 2 0),(13,.ptr 3 0),(14,.int .i64 (q'.1:Int))],q'.2.bs cap++[.cells [.int .i64 p.t.kind,.int .i64 p.t.num,.str p.t.name,.sl .no (p.kids.map bP)],.cells [.int .i64 q.t.kind,.int .i64 q.t.num,.str q.t.name,.sl .no (q.kids.map bP)]],2⟩) (λq'=>q'.1<=p.kids.length/\l4 (kg f) q'.2 ((p.kids.zip q.kids).drop q'.1)=some (g',r)/\q'.2.nodes=g.nodes/\q'.2.cls.length=g.cls.length) (λq'=>p.kids.length-q'.1) (0,ja g x y) ⟨zJ _,h,rfl,zF ..⟩ ?_ ?_
         .refine ah.lay [some 0,some 1,some 3,some 2] oko ?_
          conv=>whnf
          refine ah.at_ ?_ rfl
          conv=>whnf
          refine And.intro ?_ ?_<;>conv=>whnf
          all_goals repeat' (first|(refine gV ?_;first|refine vE ?_|refine vI ?_)|(refine gX ?_;first|refine xB ?_|(refine BxN.mk ?_ ?_;(focus (simp[AV.norm,AV.ax,wJ];done))))|exact True.intro)<;>conv=>whnf
         .rintro ⟨j,gj⟩ ⟨q1,q2,q3,q4⟩;dsimp only at q1 q2 q3 q4|-
          by_cases hj:j<p.kids.length
          .obtain ⟨w1,hw1⟩:∃w,p.kids[j]? =some w:=⟨_,zA hj⟩;obtain⟨w2,hw2⟩:∃w,q.kids[j]? =some w:=⟨_,zA (by omega)⟩
           have hz:(p.kids.zip q.kids)[j]? =some (w1,w2):=ZU.2 ⟨hw1,hw2⟩;have hzl:j<(p.kids.zip q.kids).length:=(zB.1 hz).1;rw[zH hzl,(zB.1 hz).2,l4] at q2
           cases hm:kg f gj w1 w2 with
           |none=>rw[hm] at q2;cases q2
           |some gb=>
            obtain⟨g4,b4⟩:=gb;rw[hm] at q2;have hkp:=qC hm;have hcall:=ih (cap:=cap) hm (by omega) (by rw[q4,q3];exact hl) (by rw[q3];exact hn) (by rw[q3];exact h6)
            conv=>whnf
            repeat' (first|refine gC (gD (cI ?_))|refine gL (.map ?_)|refine gI (gM (iE ?_)))<;>conv=>whnf
            refine aa.ate [0,1] hcall rfl rfl ?_
            cases b4 with
            |false=>
             cases q2
             conv=>whnf
             repeat' (refine gC ?_;first|refine cN ?_|refine .not ?_)<;>conv=>whnf
             refine ae.lay [some 0,some 1] oko ?_
             conv=>whnf
             repeat' refine ae.nrm ?_<;>conv=>whnf
             exact⟨rfl,rfl⟩
            |true=>
             simp only at q2
             conv=>whnf
             repeat' (first|(refine gC ?_;first|refine cY ?_|refine .not ?_)|refine gW (wI ?_))<;>conv=>whnf
             refine⟨(j+1,g4),⟨⟨hj,q2,hkp.1.trans q3,hkp.2.trans q4⟩,by show _-(j+1)<_-j;omega⟩,?_⟩
             exact aH
          .obtain rfl:j=p.kids.length:=by omega
           rw[Zm (by rw[yV];omega),l4] at q2
           cases q2
           conv=>whnf
           repeat' (first|refine gC (gD (cJ ?_))|refine gL (.map ?_))<;>conv=>whnf
           refine ae.lay [some 0,some 1] oko ?_
           conv=>whnf
           repeat' refine ae.nrm ?_<;>conv=>whnf
           exact⟨rfl,rfl⟩
end Go.CK
namespace Go.CK
open Go.AM Go.Proofs
structure RK(g:Rg):Prop where
 len:g.cls.length=g.nodes.length
 lim:g.nodes.length<=4000000000
 six:∀(i:Nat) (x:Nd),g.nodes[i]? =some x->x.kids.length<=6
 pos:∀(i:Nat) (x:Nd),g.nodes[i]? =some x->x.t.kind=1->0<=x.t.num
theorem Ap{M:Nat->Option Tm}{g:Rg}:∀{l:List Nat} {ts:List Tm},nC M g l=some ts->ts.length=l.length
 |[],ts,h=>by cases h;rfl
 |c::l,ts,h=>by
  rw[nC] at h;split at h
  .cases h
  .split at h
   .cases h
   .split at h
    .cases h
    .rename_i h1;cases h;simp only[zX,Ap h1]
def Hr(g:Rg)(x:Nd)(k cap j kc:Nat)(acc:List Tm):St:=⟨[(0,.ptr 0 0),(4,.ptr 2 0),(5,.int .i64 (k:Int)),(6,.ptr 3 0),(7,.int .i64 (j:Int))],
 if j<x.kids.length then rbs g.nodes g.cls cap++[.cells [.int .i64 0,.int .i64 0,.str ⟨⟨[]⟩⟩,.sl .full []],.cells [.int .i64 x.t.kind,.int .i64 x.t.num,.str x.t.name,.bsl 4 (acc.map some).length kc],aS tmA 4 kc (acc.map some)]
 else rbs g.nodes g.cls cap++[.cells [.int .i64 0,.int .i64 0,.str ⟨⟨[]⟩⟩,.sl .full []],.cells [.int .i64 x.t.kind,.int .i64 x.t.num,.str x.t.name,.sl .no (acc.map Tm.av)],.dead],2⟩
def BU(g:Rg)(t:Tm)(cap:Nat)(r:AV)(bs':List Box):Prop:=r=t.avw/\bs'=g.bs cap++[.cells [.int .i64 t.kind,.int .i64 t.num,.str t.name,.sl .no (t.args.map Tm.av)]]
set_option maxHeartbeats 4000000 in
theorem Ke{g:Rg}{cap:Nat}(hcap:g.cls.length<=cap)(hk:RK g):∀(f:Nat) {c:Nat} {t:Tm},js g f c=some t->AM.Sem Tryz.prog 164 [.ptr 0 0,.int .i64 (c:Int)] (g.bs cap) (BU g t cap):=by
 intro f
 induction f with
 |zero=>intro c t h;cases h
 |succ f ih=>
  intro c t h;rw[js] at h;have hl:=hk.len;have hn:=hk.lim;have hs:=rF (c:=c) hcap hk.len hk.lim;have hle:=H7 (c:=c) hcap hk.len hk.lim hk.pos;refine fB (by simp) ?_
  cases hsc:g.shape c with
  |none=>
   rw[hsc] at h hs;cases h;rw[show oiN none=-1 from rfl] at hs
   conv=>whnf
   skip;refine aa.ate [0,1] hs rfl rfl ?_
   conv=>whnf
   repeat' refine gC (gD (cI ?_))<;>conv=>whnf
   refine aa.ate [0,1] hle rfl rfl ?_
   conv=>whnf
   skip;refine ae.wk (aE.dF _ (.bx 2 3) rfl rfl) ?_
   conv=>whnf
   refine ae.dq gk 2 3 (b:=3) (m:=0) (k:=0) (k0:=0) (l:=[]) rfl rfl rfl (zG _) ?_
   conv=>whnf
   refine ae.lay [some 0,some 1,some 2] oko ?_
   conv=>whnf
   repeat' refine ae.nrm ?_<;>conv=>whnf
   exact⟨rfl,rfl⟩
  |some k=>
   rw[hsc] at h hs;rw[show oiN (some k)=(k:Int) from rfl] at hs;simp only at h
   cases hx:g.nodes[k]? with
   |none=>rw[hx] at h;cases h
   |some x=>
    rw[hx] at h;simp only at h;have h6:=hk.six _ _ hx
    cases hL:nC (js g f) g x.kids with
    |none=>rw[hL] at h;cases h
    |some l=>
     rw[hL] at h;cases h;have hll:=Ap hL
     conv=>whnf
     skip;refine aa.ate [0,1] hs rfl rfl ?_
     conv=>whnf
     repeat' (first|refine gC (gD (cJ ?_))|refine gI (gM (iE ?_)))<;>conv=>whnf
     refine aD.by (fb:=true) (λ_ (q:Nat×List Tm×Nat)=>Hr g x k cap q.1 q.2.2 q.2.1) (λq=>q.1<=x.kids.length/\q.2.1.length=q.1/\q.1<=q.2.2/\∃l2,nC (js g f) g (x.kids.drop q.1)=some l2/\l=q.2.1++l2) (λq=>x.kids.length-q.1) (0,[],0) ⟨zJ _,rfl,zG _,l,hL,rfl⟩ ?_ ?_
     .dsimp only;rw[Hr]
      by_cases h0:0<x.kids.length
      .rw [if_pos h0];refine ah.dF (.bx 3 3) rfl rfl ?_
       conv=>whnf
       refine ah.at_ ?_ rfl
       conv=>whnf
       refine And.intro ?_ ?_<;>conv=>whnf
       all_goals repeat' (first|(refine gV ?_;first|refine vE ?_|refine vI ?_)|(refine gX ?_;first|refine xB ?_|(refine BxN.mk ?_ ?_;(focus (simp[AV.norm,AV.ax,cellsOf];done))))|exact True.intro)<;>conv=>whnf
      .rw [if_neg h0];refine ah.dF (.bx 3 3) rfl rfl ?_
       conv=>whnf
       refine ah.dq gk 3 3 (b:=4) (m:=0) (k:=0) (k0:=0) (l:=[]) rfl rfl rfl (zG _) ?_
       conv=>whnf
       refine ah.at_ ?_ rfl
       conv=>whnf
       refine And.intro ?_ ?_<;>conv=>whnf
       all_goals repeat' (first|(refine gV ?_;first|refine vE ?_|refine vI ?_)|(refine gX ?_;first|refine xB ?_|(refine BxN.mk ?_ ?_;(focus (simp[AV.norm,AV.ax,];done))))|exact True.intro)<;>conv=>whnf
     .rintro ⟨j,acc,kc⟩ ⟨q1,q2,q3,l2,q4,q5⟩;dsimp only at q1 q2 q3 q4 q5|-;have hal:(acc.map some).length=j:=by rw[zF];exact q2
      rw[Hr]
      by_cases hj:j<x.kids.length
      .rw [if_pos hj];obtain⟨w,hw⟩:∃w,x.kids[j]? =some w:=⟨_,zA hj⟩;rw[zH hj,(zB.1 hw).2,nC] at q4
       cases hcw:g.cls[w]? with
       |none=>rw[hcw] at q4;cases q4
       |some s=>
       rw[hcw] at q4;simp only at q4
       cases hts:js g f s with
       |none=>rw[hts] at q4;cases q4
       |some t4=>
       rw[hts] at q4;simp only at q4
       cases hL4:nC (js g f) g (x.kids.drop (j+1)) with
       |none=>rw[hL4] at q4;cases q4
       |some l5=>
       rw[hL4] at q4;cases q4;have hwl:=(zB.1 hcw).1;have hcall:=ih hts
       conv=>whnf
       repeat' (first|refine gC (gD (cI ?_))|refine gL (.map ?_)|refine gN (nS ?_)|refine gI (gM (iE ?_))|(refine gE ?_;refine eLn ?_))<;>conv=>whnf
       refine aa.at [0,1] hcall rfl rfl ?_ oko ?_
       .rintro r bs' ⟨rfl,rfl⟩;exact⟨rfl,rfl,oko⟩
       rintro r bs' ⟨rfl,rfl⟩
       conv=>whnf
       repeat' refine gPr (pT ?_)<;>conv=>whnf
       refine qW.one gk (l:=acc.map some) (k:=kc) (x:=some t4) rfl rfl (by omega) (by omega) λk' hk'=>?_
       conv=>whnf
       repeat' refine gW (wI ?_)<;>conv=>whnf
       have hmap:acc.map some++[some t4]=(acc++[t4]).map some:=by rw[zu];rfl
       refine⟨(j+1,acc++[t4],k'),⟨⟨hj,by show (acc++[t4]).length=j+1;rw[zC,q2];rfl,by rw[zC,hal] at hk';exact hk',l5,hL4,by rw[q5];simp⟩,by show _-(j+1)<_-j;omega⟩,?_⟩
       dsimp only;rw[Hr,hmap];rw[hmap] at hk'
       by_cases hj1:j+1<x.kids.length
       .rw [if_pos hj1];refine ah.lay [some 0,some 1,some 2,some 3,some 6] oko ?_
        conv=>whnf
        exact aH
       .rw [if_neg hj1];refine ah.dq gk 3 3 (b:=6) (l:=(acc++[t4]).map some) rfl rfl rfl (zG _) ?_;rw[zz,Dv]
        conv=>whnf
        refine ah.lay [some 0,some 1,some 2,some 3,none] oko ?_
        conv=>whnf
        exact aH
      .obtain rfl:j=x.kids.length:=by omega
       rw[zj,nC] at q4;cases q4;rw[zy] at q5;subst q5;rw[if_neg hj]
       conv=>whnf
       repeat' (first|refine gC (gD (cJ ?_))|refine gL (.map ?_)|refine gI (gM (iE ?_)))<;>conv=>whnf
       refine ae.lay [some 0,some 1,some 2] oko ?_
       conv=>whnf
       repeat' refine ae.nrm ?_<;>conv=>whnf
       exact⟨rfl,rfl⟩
end Go.CK
