/-
  By an AI agent.
-/
import Derived.Test.YtcjfkbdbcgmomaaGreatDoorQbe
set_option linter.unusedSimpArgs false
set_option linter.unusedVariables false
set_option maxRecDepth 100000
namespace Go.CK
open Go.AM Go.Proofs
mutual
theorem Ot:∀t:Tm,t.vs.length<=t.sz
 |.mk k n s l=>by
  simp only[Tm.vs,Tm.sz];have:=yy l
  by_cases b:k=1
  .rw [if_pos b];simp
  .rw [if_neg b]
   by_cases a:k=2
   .rw [if_pos a,if_pos a];omega
   .rw [if_neg a];simp
theorem yy:∀l:List Tm,(Tm.vss l).length<=Tm.szs l
 |[]=>zG _
 |t::r=>by
  have:=Ot t;have:=yy r;simp only[Tm.vss,Tm.szs,zC];omega
end
theorem Ge{l:List Tm}(h:vLB 200 20 l=true):(Tm.vss l).length<=200:=by
 simp only[vLB,zD,decide_eq_true_eq] at h;have:=yy l;omega
theorem At.bh{x:At}(h:x.right=true):cZ x.name=true/\x.args.length<=6/\(Tm.vss x.args).length<=200:=by
 simp only[At.right,zD,decide_eq_true_eq] at h;exact⟨h.1,h.2.1,Ge h.2.2⟩
theorem Gl.bh{x:Gl}(h:x.right=true):x.args.length<=6/\(Tm.vss x.args).length<=200:=by
 unfold Gl.right at h;split at h
 .have:=At.bh h;exact this.2
 .simp only[zD,decide_eq_true_eq] at h;obtain⟨_,_,a,b⟩:=h;refine⟨?_,Ge b⟩;unfold arG at a;split at a
  .omega
  .split at a<;>omega
def cx:List At->List Tm
 |[]=>[]
 |h::l=>h.args++cx l
def eY:List Gl->List Tm
 |[]=>[]
 |g::l=>g.args++eY l
theorem js(a b:List Tm):Tm.vss (a++b)=Tm.vss a++Tm.vss b:=by
 induction a with
 |nil=>rfl
 |cons x a ih=>rw[ze,Tm.vss,Tm.vss,ih,zg]
theorem yt(a b:List At):cx (a++b)=cx a++cx b:=by
 induction a with
 |nil=>rfl
 |cons x a ih=>rw[ze,cx,cx,ih,zg]
theorem IS(a b:List Gl):eY (a++b)=eY a++eY b:=by
 induction a with
 |nil=>rfl
 |cons x a ih=>rw[ze,eY,eY,ih,zg]
theorem ir{l:List At}(h:∀x∈l,x.right=true):(cx l).length<=6*l.length/\(Tm.vss (cx l)).length<=200*l.length:=by
 induction l with
 |nil=>exact⟨zG _,zG _⟩
 |cons x l ih=>
  obtain⟨e,d⟩:=ih λy a=>h y (zQ _ a);obtain⟨_,c,b⟩:=At.bh (h x (zV ..));simp only[cx,js,zC,zX];omega
theorem so{l:List Gl}(h:∀x∈l,x.right=true):(eY l).length<=6*l.length/\(Tm.vss (eY l)).length<=200*l.length:=by
 induction l with
 |nil=>exact⟨zG _,zG _⟩
 |cons x l ih=>
  obtain⟨e,d⟩:=ih λy a=>h y (zQ _ a);obtain⟨c,b⟩:=Gl.bh (h x (zV ..));simp only[eY,js,zC,zX];omega
def Rl.hvs(r:Rl):List Int:=aV (Tm.vss (cx r.ai))
def Rl.avs(r:Rl):List Int:=aV (Tm.vss (cx r.ai++eY r.goals))
structure Rl.few(r:Rl):Prop where
 keep:r.keep.length<=4
 remove:r.remove.length<=4
 guard:r.guard.length<=12
 body:r.body.length<=12
 ai:∀h∈r.ai,h.right=true
 goals:∀g∈r.goals,g.right=true
theorem Rl.r8(r:Rl):r.goals.length=r.guard.length+r.body.length:=by simp[Rl.goals]
theorem Db{r:Rl}(hr:r.few):Fun Tryz.prog 168 [r.av] (slA aG r.hvs):=by
 have q:=hr.keep;have p:=hr.remove;have h:=ir hr.ai;have g:=r.bG;have b:=rb (l:=cx r.ai) (by omega)
 have hle:∀j,(cx (r.ai.take j)).length<=100:=λj=>by
  have o:=(ir (l:=r.ai.take j) λx f=>hr.ai x (List.mem_of_mem_take f)).1;have n:=List.length_take_le j r.ai;have m:(r.ai.take j).length<=r.ai.length:=List.length_take_le' j r.ai;omega
 refine Fun.of (gQ (by simp) ?_) rfl rfl
 conv=>whnf
 repeat' (refine gF ?_;refine ae.fn (i6 (x:=r) (by omega) (by omega)) ?_)<;>conv=>whnf
 refine ax.count (fb:=true) (r.ai.length) (λa j=>a.bD [(3,.sl (.own 4) ((cx (r.ai.take j)).map Tm.av)),(5,.int .i64 j)]) (λj=>True) ?_ ?_ (λj e c=>?_) (λc=>?_)
 .trivial
 .refine al.at_ ?_ rfl
  conv=>whnf
  refine And.intro ?_ ?_<;>conv=>whnf
  all_goals repeat' (first|(refine gV ?_;first|refine vE ?_|refine vI ?_|((refine gK ?_;refine vD ?_ ?_);(focus (simp[AV.norm,AV.ay,cx];done))))|refine gX (xB ?_)|exact True.intro)<;>conv=>whnf
 .obtain ⟨y,d⟩:∃y,r.ai[j]? =some y:=⟨_,zA e⟩
  have hs:cx (r.ai.take (j+1))=cx (r.ai.take j)++y.args:=by
   rw[List.take_succ_eq_append_getElem e,(zB.1 d).2,yt];simp[cx]
  have k:=(At.bh (hr.ai y (zE d))).2.1;have i:=hle j
  conv=>whnf
  repeat' (first|refine gC (gD (cI ?_))|refine gW (wI ?_)|refine gL (.map ?_)|refine gN (nS ?_)|refine gI (gM (iE ?_)))<;>conv=>whnf
  refine⟨trivial,?_⟩;refine al.atC 1 ?_ rfl rfl rfl rfl (by first|rfl|(repeat' (first|rfl|refine ao (row_allI _ _ _) ?_|refine ao (az _ _ _) ?_|refine bLtMp ?_|refine aE ?_|refine bLtCells rfl ?_)))
  conv=>whnf
  refine And.intro ?_ ?_<;>conv=>whnf
  all_goals repeat' (first|(refine gV ?_;first|refine vE ?_|refine vI ?_|(refine WkN.sl ?_ ?_;(focus (simp[AV.norm,AV.ay,hs];done))))|refine gX (xB ?_)|exact True.intro)<;>conv=>whnf
 .rw [zz]
  conv=>whnf
  repeat' (first|refine gF (ae.fn (b) ?_)|refine gC (gD (cJ ?_))|refine gL (.map ?_)|refine ag.nrm ?_)<;>conv=>whnf
  rfl
set_option maxHeartbeats 1000000 in
theorem Hk{r:Rl}(hr:r.few):Fun Tryz.prog 117 [r.av] (slA aG r.avs):=by
 have v:=hr.keep;have u:=hr.remove;have h:=hr.guard;have t:=hr.body;have p:=ir hr.ai;have q:=so hr.goals;have i:=r.bG;have k:=r.r8;have f:=rb (l:=cx r.ai++eY r.goals) (by rw[js,zC];omega)
 have hle:∀j,(cx (r.ai.take j)).length<=100:=λj=>by
  have h:=(ir (l:=r.ai.take j) λx e=>hr.ai x (List.mem_of_mem_take e)).1;have o:(r.ai.take j).length<=r.ai.length:=List.length_take_le' j r.ai;omega
 have g:∀j,(eY (r.goals.take j)).length<=400:=λj=>by
  have h:=(so (l:=r.goals.take j) λx e=>hr.goals x (List.mem_of_mem_take e)).1;have o:(r.goals.take j).length<=r.goals.length:=List.length_take_le' j r.goals;omega
 refine Fun.of (lf (by simp) ?_) rfl rfl
 conv=>whnf
 repeat' (refine gF ?_;refine ae.fn (i6 (x:=r) (by omega) (by omega)) ?_)<;>conv=>whnf
 refine ax.count (fb:=true) (r.ai.length) (λa j=>a.bD [(3,.sl (.own 4) ((cx (r.ai.take j)).map Tm.av)),(5,.int .i64 j)]) (λj=>True) ?_ ?_ (λj d b=>?_) (λb=>?_)
 .trivial
 .refine al.at_ ?_ rfl
  conv=>whnf
  refine And.intro ?_ ?_<;>conv=>whnf
  all_goals repeat' (first|(refine gV ?_;first|refine vE ?_|refine vI ?_|((refine gK ?_;refine vD ?_ ?_);(focus (simp[AV.norm,AV.ay,cx];done))))|refine gX (xB ?_)|exact True.intro)<;>conv=>whnf
 .obtain ⟨y,c⟩:∃y,r.ai[j]? =some y:=⟨_,zA d⟩
  have hs:cx (r.ai.take (j+1))=cx (r.ai.take j)++y.args:=by
   rw[List.take_succ_eq_append_getElem d,(zB.1 c).2,yt];simp[cx]
  have n:=(At.bh (hr.ai y (zE c))).2.1;have m:=hle j
  conv=>whnf
  repeat' (first|refine gC (gD (cI ?_))|refine gW (wI ?_)|refine gL (.map ?_)|refine gN (nS ?_)|refine gI (gM (iE ?_)))<;>conv=>whnf
  refine⟨trivial,?_⟩;refine al.atC 1 ?_ rfl rfl rfl rfl (by first|rfl|(repeat' (first|rfl|refine ao (row_allI _ _ _) ?_|refine ao (az _ _ _) ?_|refine bLtMp ?_|refine aE ?_|refine bLtCells rfl ?_)))
  conv=>whnf
  refine And.intro ?_ ?_<;>conv=>whnf
  all_goals repeat' (first|(refine gV ?_;first|refine vE ?_|refine vI ?_|(refine WkN.sl ?_ ?_;(focus (simp[AV.norm,AV.ay,hs];done))))|refine gX (xB ?_)|exact True.intro)<;>conv=>whnf
 .rw [zz]
  conv=>whnf
  repeat' (first|(refine gF ?_;refine ae.fn (ja (x:=r) (by omega) (by omega)) ?_)|refine gC (gD (cJ ?_))|refine gL (.map ?_))<;>conv=>whnf
  refine ax.count (fb:=true) (r.goals.length) (λa j=>a.bD [(3,.sl (.own 4) ((cx r.ai++eY (r.goals.take j)).map Tm.av)),(7,.int .i64 j)]) (λj=>True) ?_ ?_ (λj d b=>?_) (λb=>?_)
  .trivial
  .refine al.at_ ?_ rfl
   conv=>whnf
   refine And.intro ?_ ?_<;>conv=>whnf
   all_goals repeat' (first|(refine gV ?_;first|refine vE ?_|refine vI ?_|(refine WkN.sl ?_ ?_;(focus (simp[AV.norm,AV.ay,eY];done))))|refine gX (xB ?_)|exact True.intro)<;>conv=>whnf
  .obtain ⟨y,c⟩:∃y,r.goals[j]? =some y:=⟨_,zA d⟩
   have hs:eY (r.goals.take (j+1))=eY (r.goals.take j)++y.args:=by
    rw[List.take_succ_eq_append_getElem d,(zB.1 c).2,IS];simp[eY]
   have n:=(Gl.bh (hr.goals y (zE c))).1;have m:=g j;have s:(cx r.ai++eY (r.goals.take j)).length<=1000:=by rw[zC];omega
   conv=>whnf
   repeat' (first|refine gC (gD (cI ?_))|refine gW (wI ?_)|refine gL (.map ?_)|refine gN (nS ?_)|refine gI (gM (iE ?_)))<;>conv=>whnf
   refine⟨trivial,?_⟩;refine al.atC 1 ?_ rfl rfl rfl rfl (by first|rfl|(repeat' (first|rfl|refine ao (row_allI _ _ _) ?_|refine ao (az _ _ _) ?_|refine bLtMp ?_|refine aE ?_|refine bLtCells rfl ?_)))
   conv=>whnf
   refine And.intro ?_ ?_<;>conv=>whnf
   all_goals repeat' (first|(refine gV ?_;first|refine vE ?_|refine vI ?_|(refine WkN.sl ?_ ?_;(focus (simp[AV.norm,AV.ay,hs];done))))|refine gX (xB ?_)|exact True.intro)<;>conv=>whnf
  .rw [zz]
   conv=>whnf
   repeat' (first|refine gF (ae.fn (f) ?_)|refine gC (gD (cJ ?_))|refine gL (.map ?_)|refine ag.nrm ?_)<;>conv=>whnf
   rfl
def fnz:List Int->Int
 |[]=>0
 |x::l=>if x=0 then fnz l else x
theorem KM{l:List Int}(h:∀i x,i<l.length->l[i]? =some x->x=0):fnz l=0:=by
 induction l with
 |nil=>rfl
 |cons y l ih=>
  rw[fnz,if_pos (h 0 y (by simp) rfl)]
  exact ih λi x b a=>h (i+1) x (by simpa using b) (by simpa using a)
theorem FD:∀{l:List Int} {j:Nat} {x:Int},l[j]? =some x->x≠0->(∀i y,i<j->l[i]? =some y->y=0)->fnz l=x
 |[],_,_,h,_,_=>by simp at h
 |y::l,0,x,h,a,_=>by
  simp at h;subst h
  rw[fnz,if_neg a]
 |y::l,j+1,x,h,a,b=>by
  rw[fnz,if_pos (b 0 y (by omega) rfl)]
  exact FD (by simpa using h) a λi z d c=>b (i+1) z (by omega) (by simpa using c)
def lF(ds:List Dc)(g:Gl):Int:=if g.op=0 then sZ ds g.name g.args.length else 0
theorem FQ{ds:List Dc}{l:List Gl}(v:ds.length<=10000000)(w:l.length<=1000)(u:∀g∈l,g.args.length<=10000000):Fun Tryz.prog 166 [slA Dc.av ds,slA Gl.av l] (.int .i64 (fnz (l.map (lF ds)))):=by
 refine Fun.of (j9 (by simp) ?_) rfl rfl
 conv=>whnf
 skip;refine ax.count (fb:=true) (l.length) (λm j=>m.bD [(5,.int .i64 j)]) (λj=>∀i x,i<j->(l.map (lF ds))[i]? =some x->x=0) ?_ ?_ (λj t b=>?_) (λb=>?_)
 .intro i x p;omega
 .exact aN
 .obtain ⟨y,q⟩:∃y,l[j]? =some y:=⟨_,zA t⟩;have s:=u y (zE q);have d:(l.map (lF ds))[j]? =some (lF ds y):=by simp[q]
  have step:lF ds y=0->∀i x,i<j+1->(l.map (lF ds))[i]? =some x->x=0:=λk i x p f=>by
   by_cases e:i=j
   .subst e;rw[d] at f;cases f;exact k
   .exact b i x (by omega) f
  by_cases k:y.op=0
  .have h:lF ds y=sZ ds y.name y.args.length:=by simp[lF,k]
   have c:=vT (n:=y.name) (a:=(y.args.length:Int)) v
   by_cases o:sZ ds y.name y.args.length=0
   .rw [o] at c
    conv=>whnf
    repeat' (first|refine gG (aW.fn (c) ?_)|(refine gC ?_;first|refine .not ?_|refine gD (cI ?_))|refine gW (wI ?_)|refine gL (.map ?_)|refine gI (gM (iE ?_)))<;>conv=>whnf
    refine⟨step (h.trans o),?_⟩;exact aN
   .have r:=FD d (by rw[h];exact o) b
    rw[h] at r;rw[r]
    conv=>whnf
    repeat' (first|refine gG (aW.fn (c) ?_)|(refine gC ?_;first|refine .not ?_|(refine gD ?_;first|refine cI ?_|refine cJ ?_))|refine gL (.map ?_)|refine gI (gM (iE ?_))|refine ag.nrm ?_)<;>conv=>whnf
  .have h:lF ds y=0:=by simp[lF,k]
   conv=>whnf
   repeat' (first|(refine gC ?_;first|refine .not ?_|(refine gD ?_;first|refine cI ?_|refine cJ ?_))|refine gW (wI ?_)|refine gL (.map ?_)|refine gI (gM (iE ?_)))<;>conv=>whnf
   refine⟨step h,?_⟩;exact aN
 .rw [KM λi x p f=>b i x (by simpa using p) f]
  conv=>whnf
  repeat' (first|refine gC (gD (cJ ?_))|refine gL (.map ?_)|refine ag.nrm ?_)<;>conv=>whnf
end Go.CK
namespace Go.CK
open Go.AM Go.Proofs
def xq(op:Int):Bool:=decide (5<=op)&&decide (op<=12)
def vH(g:Gl):Bool:=xq g.op||decide (g.op=1)
def yp(g:Gl):Bool:=!xq g.op
def KC(a:List Int)(g:Gl):Bool:=(aV (Tm.vss g.args)).all λv=>decide (v∈a)
def mj(ds:List Dc)(h:At):Int:=sZ ds h.name h.args.length
def GK(ds:List Dc)(r:Rl):Int:=
 if fnz (r.ai.map (mj ds))=0 then
  if fnz (r.goals.map (lF ds))=0 then
   if r.guard.all vH=true then
    if r.body.all yp=true then
     if r.guard.all (KC r.hvs)=true then 0 else 17
    else 10
   else 10
  else fnz (r.goals.map (lF ds))
 else fnz (r.ai.map (mj ds))
theorem mn{l:List Tm}{n:Nat}(h:(Tm.vss l).length<=n):(aV (Tm.vss l)).length<=n:=by
 have:=cU (Tm.vss l) [];simp only[ZP] at this;unfold aV;omega
set_option maxHeartbeats 4000000 in
theorem EZ{ds:List Dc}{r:Rl}(P:ds.length<=10000000)(hr:r.few):Fun Tryz.prog 118 [slA Dc.av ds,r.av] (.int .i64 (GK ds r)):=by
 have N:=hr.keep;have X:=hr.remove;have W:=hr.guard;have V:=hr.body;have T:=r.bG;have U:=r.r8;have K:∀g∈r.guard,g.right=true:=λg L=>hr.goals g (ZB _ L);have z:=FQ (ds:=ds) (l:=r.goals) P (by omega) λg L=>by have:=(Gl.bh (hr.goals g L)).1;omega
 have S:r.hvs.length<=2000:=mn (by have:=(ir hr.ai).2;omega)
 have J:=Db hr;refine Fun.of (iO (by simp) ?_) rfl rfl
 conv=>whnf
 repeat' (refine gF ?_;refine ae.fn (i6 (x:=r) (by omega) (by omega)) ?_)<;>conv=>whnf
 refine ax.count (fb:=true) (r.ai.length) (λc j=>c.bD [(6,.int .i64 j)]) (λj=>∀i x,i<j->(r.ai.map (mj ds))[i]? =some x->x=0) ?_ ?_ (λj t b=>?_) (λb=>?_)
 .intro i x d;omega
 .exact aN
 .obtain ⟨y,h⟩:∃y,r.ai[j]? =some y:=⟨_,zA t⟩;have B:(r.ai.map (mj ds))[j]? =some (mj ds y):=by simp[h]
  have R:=(At.bh (hr.ai y (zE h))).2.1;have w:=vT (n:=y.name) (a:=(y.args.length:Int)) P
  by_cases A:mj ds y=0
  .rw [show sZ ds y.name y.args.length=0 from A] at w
   conv=>whnf
   repeat' (first|refine gG (aW.fn (w) ?_)|(refine gC ?_;first|refine .not ?_|refine gD (cI ?_))|refine gW (wI ?_)|refine gL (.map ?_)|refine gI (gM (iE ?_)))<;>conv=>whnf
   refine⟨λi x d m=>?_,?_⟩
   .by_cases e:i=j
    .subst e;rw[B] at m;cases m;exact A
    .exact b i x (by omega) m
   exact aN
  .have G:=FD B A b;have Q:¬sZ ds y.name y.args.length=0:=A;unfold GK;rw[G,if_neg A]
   conv=>whnf
   repeat' (first|refine gG (aW.fn (w) ?_)|(refine gC ?_;first|refine .not ?_|(refine gD ?_;first|refine cI ?_|refine cJ ?_))|refine gL (.map ?_)|refine gI (gM (iE ?_))|refine ag.nrm ?_)<;>conv=>whnf
   rfl
 .have G:fnz (r.ai.map (mj ds))=0:=KM λi x d m=>b i x (by simpa using d) m
  clear b;unfold GK;rw[if_pos G];clear G
  by_cases M:fnz (r.goals.map (lF ds))=0
  .rw [if_pos M];rw[M] at z
   conv=>whnf
   repeat' (first|(refine gF ?_;first|refine ae.fn (ja (x:=r) (by omega) (by omega)) ?_|refine ae.fn (z) ?_)|(refine gC ?_;first|refine .not ?_|(refine gD ?_;first|refine cI ?_|refine cJ ?_))|refine gL (.map ?_))<;>conv=>whnf
   refine ax.count (fb:=true) (r.guard.length) (λc j=>c.bD [(9,.int .i64 j)]) (λj=>∀i x,i<j->r.guard[i]? =some x->vH x=true) ?_ ?_ (λj t b=>?_) (λb=>?_)
   .intro i x d;omega
   .exact aN
   .obtain ⟨y,h⟩:∃y,r.guard[j]? =some y:=⟨_,zA t⟩;have o:=xr y.op;rw[show (decide (5<=y.op)&&decide (y.op<=12))=xq y.op from rfl] at o
    cases hb:xq y.op with
    |true=>
     rw[hb] at o
     conv=>whnf
     repeat' (first|refine gF (ae.fn (o) ?_)|(refine gC ?_;first|refine cY ?_|refine cN ?_|refine .not ?_|refine gD (cI ?_))|refine gW (wI ?_)|refine gL (.map ?_)|refine gI (gM (iE ?_)))<;>conv=>whnf
     refine⟨fB b h (by simp[vH,hb]),?_⟩
     exact aN
    |false=>
     rw[hb] at o
     by_cases N:y.op=1
     .conv=>whnf
      repeat' (first|refine gF (ae.fn (o) ?_)|(refine gC ?_;first|refine cN ?_|refine .not ?_|refine gD (cI ?_))|refine gW (wI ?_)|refine gL (.map ?_)|refine gI (gM (iE ?_)))<;>conv=>whnf
      refine⟨fB b h (by simp[vH,N]),?_⟩
      exact aN
     .have C:=pN (p:=vH) h (by simp[vH,hb,N])
      rw[C]
      conv=>whnf
      repeat' (first|refine gF (ae.fn (o) ?_)|(refine gC ?_;first|refine cN ?_|refine .not ?_|(refine gD ?_;first|refine cI ?_|refine cJ ?_))|refine gL (.map ?_)|refine gI (gM (iE ?_))|refine ag.nrm ?_)<;>conv=>whnf
      rfl
   .have s:r.guard.all vH=true:=zS.2 λx m=>by
     obtain⟨i,d,rfl⟩:=Zq m;exact b i _ d (zA d)
    rw[if_pos s];clear b s
    conv=>whnf
    repeat' (first|refine gC (gD (cJ ?_))|refine gL (.map ?_))<;>conv=>whnf
    refine ax.count (fb:=true) (r.body.length) (λc j=>c.bD [(10,.int .i64 j)]) (λj=>∀i x,i<j->r.body[i]? =some x->yp x=true) ?_ ?_ (λj t b=>?_) (λb=>?_)
    .intro i x d;omega
    .exact aN
    .obtain ⟨y,h⟩:∃y,r.body[j]? =some y:=⟨_,zA t⟩;have o:=xr y.op;rw[show (decide (5<=y.op)&&decide (y.op<=12))=xq y.op from rfl] at o
     cases hb:xq y.op with
     |true=>
      rw[hb] at o;have C:=pN (p:=yp) h (by simp[yp,hb])
      rw[C]
      conv=>whnf
      repeat' (first|refine gF (ae.fn (o) ?_)|(refine gC ?_;first|refine cY ?_|refine gD (cI ?_))|refine gL (.map ?_)|refine gI (gM (iE ?_))|refine ag.nrm ?_)<;>conv=>whnf
      rfl
     |false=>
      rw[hb] at o
      conv=>whnf
      repeat' (first|refine gF (ae.fn (o) ?_)|(refine gC ?_;first|refine cN ?_|refine gD (cI ?_))|refine gW (wI ?_)|refine gL (.map ?_)|refine gI (gM (iE ?_)))<;>conv=>whnf
      refine⟨fB b h (by simp[yp,hb]),?_⟩
      exact aN
    .have F:r.body.all yp=true:=zS.2 λx m=>by
      obtain⟨i,d,rfl⟩:=Zq m;exact b i _ d (zA d)
     rw[if_pos F];clear b F
     conv=>whnf
     repeat' (first|refine gF (ae.fn (J) ?_)|refine gC (gD (cJ ?_))|refine gL (.map ?_))<;>conv=>whnf
     refine ax.count (fb:=true) (r.guard.length) (λc j=>c.bD [(12,.int .i64 j)]) (λj=>∀i x,i<j->r.guard[i]? =some x->KC r.hvs x=true) ?_ ?_ (λj t b=>?_) (λb=>?_)
     .intro i x d;omega
     .exact aN
     .obtain ⟨y,h⟩:∃y,r.guard[j]? =some y:=⟨_,zA t⟩;have H:=(Gl.bh (K y (zE h))).2;have hvs:=mn H;have D:=uu (x:=y) (by omega)
      conv=>whnf
      repeat' (first|refine gF (ae.fn (D) ?_)|refine gC (gD (cI ?_))|refine gL (.map ?_)|refine gI (gM (iE ?_)))<;>conv=>whnf
      obtain⟨vs,f⟩:∃vs,vs=aV (Tm.vss y.args):=⟨_,rfl⟩;have E:KC r.hvs y=vs.all λv=>decide (v∈r.hvs):=by rw[f];rfl
      rw[<-f] at hvs;rw[<-f];clear f D;refine ax.count (fb:=true) (vs.length) (λc k=>c.bD [(14,.int .i64 k)]) (λk=>∀i x,i<k->vs[i]? =some x->decide (x∈r.hvs)=true) ?_ ?_ (λk hk u=>?_) (λu=>?_)
      .intro i x d;omega
      .exact aN
      .obtain ⟨v,O⟩:∃v,vs[k]? =some v:=⟨_,zA hk⟩;have q:=Mr (l:=r.hvs) (n:=v) (by omega)
       cases hb:decide (v∈r.hvs) with
       |true=>
        rw[hb] at q
        conv=>whnf
        repeat' (first|refine gF (ae.fn (q) ?_)|(refine gC ?_;first|refine cY ?_|refine .not ?_|refine gD (cI ?_))|refine gW (wI ?_)|refine gL (.map ?_)|refine gI (gM (iE ?_)))<;>conv=>whnf
        refine⟨fB u O hb,?_⟩
        exact aN
       |false=>
        rw[hb] at q;have C:=pN (p:=KC r.hvs) h (by rw[E];exact pN O hb)
        rw[C]
        conv=>whnf
        repeat' (first|refine gF (ae.fn (q) ?_)|(refine gC ?_;first|refine cN ?_|refine .not ?_|refine gD (cI ?_))|refine gL (.map ?_)|refine gI (gM (iE ?_))|refine ag.nrm ?_)<;>conv=>whnf
        rfl
      .have I:(vs.all λv=>decide (v∈r.hvs))=true:=zS.2 λx m=>by
        obtain⟨i,d,rfl⟩:=Zq m;exact u i _ d (zA d)
       conv=>whnf
       repeat' (first|refine gC (gD (cJ ?_))|refine gW (wI ?_)|refine gL (.map ?_))<;>conv=>whnf
       refine⟨fB b h (E.trans I),?_⟩;exact aN
     .have s:r.guard.all (KC r.hvs)=true:=zS.2 λx m=>by
       obtain⟨i,d,rfl⟩:=Zq m;exact b i _ d (zA d)
      rw[if_pos s]
      conv=>whnf
      repeat' (first|refine gC (gD (cJ ?_))|refine gL (.map ?_)|refine ag.nrm ?_)<;>conv=>whnf
  .rw [if_neg M]
   conv=>whnf
   repeat' (first|(refine gF ?_;first|refine ae.fn (ja (x:=r) (by omega) (by omega)) ?_|refine ae.fn (z) ?_)|(refine gC ?_;first|refine .not ?_|refine gD (cJ ?_))|refine gL (.map ?_)|refine ag.nrm ?_)<;>conv=>whnf
end Go.CK
namespace Go.CK
open Go.AM Go.Proofs
structure Rl.size(r:Rl):Prop where
 keep:r.keep.length<=2000000
 remove:r.remove.length<=2000000
 guard:r.guard.length<=2000000
 body:r.body.length<=2000000
 ai:∀h∈r.ai,Tm.aA h.args<=100000000
 goals:∀g∈r.goals,Tm.aA g.args<=100000000
def KP(r:Rl):Bool:=decide (¬r.ai.length=0)&&(decide (r.ai.length<=4)&&(decide (r.guard.length<=12)&&decide (r.body.length<=12)))
def pC(s:ByteArray):Bool:=decide (s=⟨⟨[]⟩⟩)||cZ s
def p7(ds:List Dc)(r:Rl):Int:=
 if KP r=true then
  if r.ai.all At.right=true then
   if r.goals.all Gl.right=true then
    if r.avs=upI r.avs.length then
     if r.vars=r.avs.length then
      if pC r.name=true then GK ds r else 7
     else 2
    else 2
   else 2
  else 2
 else 6
set_option maxHeartbeats 4000000 in
theorem Bo{ds:List Dc}{r:Rl}(L:ds.length<=10000000)(hs:r.size):Fun Tryz.prog 63 [slA Dc.av ds,r.av] (.int .i64 (p7 ds r)):=by
 have P:=hs.keep;have O:=hs.remove;have N:=hs.guard;have M:=hs.body;have H:=r.bG;have J:=r.r8;unfold p7
 by_cases o:KP r=true
 .rw [if_pos o];simp only[KP,zD,decide_eq_true_eq] at o;obtain⟨f1,f2,f3,f4⟩:=o;refine Fun.of (cQ (by simp) ?_) rfl rfl
  conv=>whnf
  repeat' (first|(refine gF ?_;first|refine ae.fn (i6 (x:=r) (by omega) (by omega)) ?_|refine ae.fn (ja (x:=r) (by omega) (by omega)) ?_)|refine gC (gD (cJ ?_))|refine gL (.map ?_))<;>conv=>whnf
  refine ax.count (fb:=true) (r.ai.length) (λc j=>c.bD [(7,.int .i64 j)]) (λj=>∀i x,i<j->r.ai[i]? =some x->x.right=true) ?_ ?_ (λj m a=>?_) (λa=>?_)
  .intro i x l;omega
  .exact aN
  .obtain ⟨y,d⟩:∃y,r.ai[j]? =some y:=⟨_,zA m⟩;have A:=hs.ai y (zE d);have B:=cG y.args;have hr:=fU y (by omega) (by omega)
   cases hb:y.right with
   |true=>
    rw[hb] at hr
    conv=>whnf
    repeat' (first|refine gF (ae.fn (hr) ?_)|(refine gC ?_;first|refine cY ?_|refine .not ?_|refine gD (cI ?_))|refine gW (wI ?_)|refine gL (.map ?_)|refine gI (gM (iE ?_)))<;>conv=>whnf
    refine⟨fB a d hb,?_⟩
    exact aN
   |false=>
    rw[hb] at hr;rw[pN (p:=At.right) d hb]
    conv=>whnf
    repeat' (first|refine gF (ae.fn (hr) ?_)|(refine gC ?_;first|refine cN ?_|refine .not ?_|refine gD (cI ?_))|refine gL (.map ?_)|refine gI (gM (iE ?_))|refine ag.nrm ?_)<;>conv=>whnf
    all_goals rfl
  .have w:r.ai.all At.right=true:=BE a;rw[if_pos w];clear a
   conv=>whnf
   repeat' (first|refine gC (gD (cJ ?_))|refine gL (.map ?_))<;>conv=>whnf
   refine ax.count (fb:=true) (r.goals.length) (λc j=>c.bD [(8,.int .i64 j)]) (λj=>∀i x,i<j->r.goals[i]? =some x->x.right=true) ?_ ?_ (λj m a=>?_) (λa=>?_)
   .intro i x l;omega
   .exact aN
   .obtain ⟨y,d⟩:∃y,r.goals[j]? =some y:=⟨_,zA m⟩;have A:=hs.goals y (zE d);have B:=cG y.args;have hr:=s9 y (by omega) (by omega)
    cases hb:y.right with
    |true=>
     rw[hb] at hr
     conv=>whnf
     repeat' (first|refine gF (ae.fn (hr) ?_)|(refine gC ?_;first|refine cY ?_|refine .not ?_|refine gD (cI ?_))|refine gW (wI ?_)|refine gL (.map ?_)|refine gI (gM (iE ?_)))<;>conv=>whnf
     refine⟨fB a d hb,?_⟩
     exact aN
    |false=>
     rw[hb] at hr;rw[pN (p:=Gl.right) d hb]
     conv=>whnf
     repeat' (first|refine gF (ae.fn (hr) ?_)|(refine gC ?_;first|refine cN ?_|refine .not ?_|refine gD (cI ?_))|refine gL (.map ?_)|refine gI (gM (iE ?_))|refine ag.nrm ?_)<;>conv=>whnf
     all_goals rfl
   .have z:r.goals.all Gl.right=true:=BE a;rw[if_pos z];clear a;have b:r.few:=⟨by omega,by omega,f3,f4,λh I=>zS.1 w h I,λg K=>zS.1 z g K⟩
    have q:=Hk b
    have F:r.avs.length<=20000:=by
     have R:=(ir b.ai).2;have Q:=(so b.goals).2;refine mn ?_;rw[js,zC];omega
    have u:=EZ (ds:=ds) L b
    conv=>whnf
    repeat' (first|refine gF (ae.fn (q) ?_)|refine gC (gD (cJ ?_))|refine gL (.map ?_))<;>conv=>whnf
    generalize r.avs=v at*;refine ax.count (fb:=true) (v.length) (λc j=>c.bD [(10,.int .i64 j)]) (λj=>∀i x,i<j->v[i]? =some x->x=(i:Int)) ?_ ?_ (λj m a=>?_) (λa=>?_)
    .intro i x l;omega
    .exact aN
    .obtain ⟨y,d⟩:∃y,v[j]? =some y:=⟨_,zA m⟩
     by_cases hb:y=(j:Int)
     .conv=>whnf
      repeat' (first|(refine gC ?_;first|refine .not ?_|refine gD (cI ?_))|refine gW (wI ?_)|refine gL (.map ?_)|refine gI (gM (iE ?_)))<;>conv=>whnf
      refine⟨λi x l C=>?_,?_⟩
      .by_cases e:i=j
       .subst e;rw[d] at C;cases C;exact hb
       .exact a i x (by omega) C
      exact aN
     .have G:¬v=upI v.length:=λe=>by
       have E:=Jb (n:=v.length) m;rw[<-e,d] at E;cases E;exact hb rfl
      rw[if_neg G]
      conv=>whnf
      repeat' (first|(refine gC ?_;first|refine .not ?_|(refine gD ?_;first|refine cI ?_|refine cJ ?_))|refine gL (.map ?_)|refine gI (gM (iE ?_))|refine ag.nrm ?_)<;>conv=>whnf
    .have s:v=upI v.length:=by
      refine Zo λi=>?_
      by_cases l:i<v.length
      .rw [Jb l,zA l,a i _ l (zA l)]
      .rw [zR (by omega),zR (by rw[pU];omega)]
     rw[if_pos s];clear a s
     by_cases hvs:r.vars=v.length
     .rw [if_pos hvs];have f:=oi r.name
      by_cases t:r.name=⟨⟨[]⟩⟩
      .rw [show pC r.name=true by simp[pC,t],if_pos rfl]
       conv=>whnf
       repeat' (first|refine gF (ae.fn (u) ?_)|(refine gC ?_;first|refine cN ?_|refine .not ?_|(refine gD ?_;first|refine cI ?_|refine cJ ?_))|refine gL (.map ?_)|refine ag.nrm ?_)<;>conv=>whnf
      .cases k:cZ r.name with
       |true=>
        rw[k] at f;rw[show pC r.name=true by simp[pC,k],if_pos rfl]
        conv=>whnf
        repeat' (first|(refine gF ?_;first|refine ae.fn (f) ?_|refine ae.fn (u) ?_)|(refine gC ?_;first|refine cY ?_|refine .not ?_|(refine gD ?_;first|refine cI ?_|refine cJ ?_))|refine gL (.map ?_)|refine ag.nrm ?_)<;>conv=>whnf
       |false=>
        rw[k] at f;rw[show pC r.name=false by simp[pC,k,t],if_neg (by decide)]
        conv=>whnf
        repeat' (first|refine gF (ae.fn (f) ?_)|(refine gC ?_;first|refine cN ?_|refine .not ?_|(refine gD ?_;first|refine cI ?_|refine cJ ?_))|refine gL (.map ?_)|refine ag.nrm ?_)<;>conv=>whnf
     .rw [if_neg hvs]
      conv=>whnf
      repeat' (first|(refine gC ?_;first|refine .not ?_|refine gD (cJ ?_))|refine gL (.map ?_)|refine ag.nrm ?_)<;>conv=>whnf
 .rw [if_neg o];simp only[KP,zD,decide_eq_true_eq,not_and] at o;refine Fun.of (cQ (by simp) ?_) rfl rfl
  conv=>whnf
  repeat' (first|(refine gF ?_;first|refine ae.fn (i6 (x:=r) (by omega) (by omega)) ?_|refine ae.fn (ja (x:=r) (by omega) (by omega)) ?_)|(refine gC ?_;first|refine cY ?_|(refine gD ?_;first|refine cI ?_|refine cJ ?_)|refine ak.lt (λD=>?_) (λD=>?_)|refine ak.dec (λD=>?_) (λD=>?_))|refine gL (.map ?_)|refine ag.nrm ?_)<;>conv=>whnf
  all_goals (exfalso;apply o<;>omega)
def dcI(seen:List Dc):List Dc->Int
 |[]=>0
 |d::l=>if cZ d.name=true then
   if 0<=d.arity/\d.arity<=6 then
    if vU seen d.name d.arity=true then 8 else dcI (seen++[d]) l
   else 9
  else 7
def ng(ds:List Dc):List Rl->Int->Int×Int
 |[],_=>(0,0)
 |r::l,i=>if p7 ds r=0 then ng ds l (i+1) else (i,p7 ds r)
def gd(p:Pg):Int×Int:=
 if p.decls.length<=30 then
  if dcI [] p.decls=0 then
   if p.rules.length<=40 then ng p.decls p.rules 0 else (-1,6)
  else (-1,dcI [] p.decls)
 else (-1,6)
set_option maxHeartbeats 4000000 in
theorem K6{p:Pg}(v:p.decls.length<=2000000)(hr:p.rules.length<=2000000)(hs:∀r∈p.rules,r.size):Fun Tryz.prog 19 [p.av] (.tup [.int .i64 (gd p).1,.int .i64 (gd p).2]):=by
 unfold gd
 by_cases m:p.decls.length<=30
 .rw [if_pos m];refine Fun.of (dJ (by simp) ?_) rfl rfl
  conv=>whnf
  repeat' (first|refine gC (gD (cJ ?_))|refine gL (.map ?_))<;>conv=>whnf
  refine ax.count (fb:=true) (p.decls.length) (λg j=>g.bD [(4,.int .i64 j)]) (λj=>dcI [] p.decls=dcI (p.decls.take j) (p.decls.drop j)) ?_ ?_ (λj i b=>?_) (λb=>?_)
  .rfl
  .exact aN
  .obtain ⟨y,k⟩:∃y,p.decls[j]? =some y:=⟨_,zA i⟩
   have q:p.decls.take (j+1)=p.decls.take j++[y]:=by
    rw[List.take_succ_eq_append_getElem i,(zB.1 k).2]
   have t:(p.decls.take j).length<=30:=by have:=List.length_take_le' j p.decls;omega
   have c:=oi y.name;have d:=sY (ds:=p.decls.take j) (n:=y.name) (a:=y.arity) (by omega)
   rw[show slA Dc.av (p.decls.take j)=.sl .no (List.drop (Int.toNat 0) (List.take (j:Int).toNat (p.decls.map Dc.av))) by simp[slA,List.map_take]] at d
   rw[zH i,(zB.1 k).2,dcI] at b
   cases e:cZ y.name with
   |false=>
    rw[e] at c;rw[e,if_neg (by decide)] at b
    rw[b,if_neg (by decide)]
    conv=>whnf
    repeat' (first|refine gF (ae.fn (c) ?_)|(refine gC ?_;first|refine cN ?_|refine .not ?_|refine gD (cI ?_))|refine gL (.map ?_)|refine gI (gM (iE ?_))|refine ag.nrm ?_)<;>conv=>whnf
   |true=>
    rw[e] at c;rw[e,if_pos rfl] at b
    by_cases s:0<=y.arity/\y.arity<=6
    .rw [if_pos s] at b
     cases f:vU (p.decls.take j) y.name y.arity with
     |true=>
      rw[f] at d;rw[f,if_pos rfl] at b;rw[b,if_neg (by decide)]
      conv=>whnf
      repeat' (first|refine gF (ae.fn (c) ?_)|refine gG (aW.fn (d) ?_)|(refine gC ?_;first|refine cY ?_|refine .not ?_|(refine gD ?_;first|refine cI ?_|refine cJ ?_))|refine gL (.map ?_)|refine gN (nS ?_)|refine gI (gM (iE ?_))|refine ag.nrm ?_)<;>conv=>whnf
     |false=>
      rw[f] at d;rw[f,if_neg (by decide),<-q] at b
      conv=>whnf
      repeat' (first|refine gF (ae.fn (c) ?_)|refine gG (aW.fn (d) ?_)|(refine gC ?_;first|refine cY ?_|refine cN ?_|refine .not ?_|(refine gD ?_;first|refine cI ?_|refine cJ ?_))|refine gW (wI ?_)|refine gL (.map ?_)|refine gN (nS ?_)|refine gI (gM (iE ?_)))<;>conv=>whnf
      refine⟨b,?_⟩;refine al.atC 1 ?_ rfl rfl rfl rfl (by first|rfl|(repeat' (first|rfl|refine ao (row_allI _ _ _) ?_|refine ao (az _ _ _) ?_|refine bLtMp ?_|refine aE ?_|refine bLtCells rfl ?_)))
      conv=>whnf
      refine And.intro ?_ ?_<;>conv=>whnf
      all_goals repeat' (first|(refine gV ?_;first|refine vE ?_|refine vI ?_)|refine gX (xB ?_)|exact True.intro)<;>conv=>whnf
    .rw [if_neg s] at b;rw[b,if_neg (by decide)]
     conv=>whnf
     repeat' (first|refine gF (ae.fn (c) ?_)|(refine gC ?_;first|refine cY ?_|refine .not ?_|(refine gD ?_;first|refine cI ?_|refine cJ ?_)|refine ak.lt (λu=>?_) (λu=>?_))|refine gL (.map ?_)|refine gI (gM (iE ?_))|refine ag.nrm ?_)<;>conv=>whnf
     all_goals (exfalso;apply s;constructor<;>omega)
  .rw [zj,dcI] at b;rw[if_pos b];clear b
   by_cases l:p.rules.length<=40
   .rw [if_pos l]
    conv=>whnf
    repeat' (first|refine gC (gD (cJ ?_))|refine gL (.map ?_))<;>conv=>whnf
    refine ax.count (fb:=true) (p.rules.length) (λg j=>g.bD [(6,.int .i64 j)]) (λj=>ng p.decls p.rules 0=ng p.decls (p.rules.drop j) (j:Int)) ?_ ?_ (λj i b=>?_) (λb=>?_)
    .rfl
    .exact aN
    .obtain ⟨y,k⟩:∃y,p.rules[j]? =some y:=⟨_,zA i⟩;have h:=Bo (ds:=p.decls) (r:=y) (by omega) (hs y (zE k))
     rw[zH i,(zB.1 k).2,ng] at b
     by_cases o:p7 p.decls y=0
     .rw [o] at h;rw[if_pos o] at b
      conv=>whnf
      repeat' (first|refine gG (aW.fn (h) ?_)|(refine gC ?_;first|refine .not ?_|refine gD (cI ?_))|refine gW (wI ?_)|refine gL (.map ?_)|refine gI (gM (iE ?_)))<;>conv=>whnf
      refine⟨by rw[b];rfl,?_⟩
      exact aN
     .rw [if_neg o] at b;rw[b]
      conv=>whnf
      repeat' (first|refine gG (aW.fn (h) ?_)|(refine gC ?_;first|refine .not ?_|(refine gD ?_;first|refine cI ?_|refine cJ ?_))|refine gL (.map ?_)|refine gI (gM (iE ?_))|refine ag.nrm ?_)<;>conv=>whnf
    .rw [zj,ng] at b;rw[b]
     conv=>whnf
     repeat' (first|refine gC (gD (cJ ?_))|refine gL (.map ?_)|refine ag.nrm ?_)<;>conv=>whnf
   .rw [if_neg l]
    conv=>whnf
    repeat' (first|(refine gC ?_;(refine gD ?_;first|refine cI ?_|refine cJ ?_))|refine gL (.map ?_)|refine ag.nrm ?_)<;>conv=>whnf
 .rw [if_neg m];refine Fun.of (dJ (by simp) ?_) rfl rfl
  conv=>whnf
  repeat' (first|refine gC (gD (cI ?_))|refine gL (.map ?_)|refine ag.nrm ?_)<;>conv=>whnf
end Go.CK
namespace Go.CK
open Go.AM Go.Proofs
variable{ab:List AV}{bs:List Box}{Q:AV->List Box->Prop}
def AD:RC:=
 (.seq (rR [0,1] [oQ 4 (.mov (.c .kB)),oQ 5 (.mov (.c (.int .i64 0)))]) (.seq (.seq (rR [0,1,17] [qM 11 0,oQ 12 (cF 40 [11]),oQ 13 (.un .not 12),qM 14 13,oG 15 14 false (.mov 1),oG 16 14 false (cF 41 [15,(.c (.fn (.func 42) [] []))]),oQ 17 (.pick 14 (.c (.bool true)) 16)]) (.cond 17 (.seq (rR [4,5] [oQ 4 (.mov (.c .kB)),oQ 5 (.mov (.c (.int .i64 2)))]) .ret) .skip)) (.seq (rR [0,1,6] [oQ 18 (.build [(.sl .full []),(.sl .full []),(.sl .full [])] []),oQ 19 (.box 18),qM 6 19]) (.seq (.seq (rR [0,6,20,21,22] [qM 20 1,oQ 21 (.len false 20),oQ 22 (.mov (.c (.int .i64 0)))]) (.block 0 (.loop (.seq (rR [0,6,20,21,22,23] [oQ 23 (.bin .lss 22 21)]) (.seq (.cond 23 .skip (.exit 0)) (.seq (.block 1 (.seq (rR [0,6,8,20,21,22] [qI 24 3 20 22,qA 25 3 24,oQ 8 (.box (.c (.agg [(.str ⟨⟨[]⟩⟩),(.int .i64 0),(.sl .full [])]))),oN (.store 3 8 25)]) (.seq (rR [0,6,8,20,21,22] [
 qF 26 2 8,qL 27 26,oQ 28 (cF 44 [27]),qF 29 2 8,oN (.store 1 29 28)]) (.seq (.mult [0,6,20,21,22] [(0,qM 30 6),(0,qM 31 6),(0,qK 32 31),(0,qF 33 0 32),(0,qL 34 33),(0,qA 35 3 8),(2,oQ 36 (.eff (.bsR 3) [35])),(2,oQ 37 (.eff (.oP 3) [34,36])),(0,qK 38 30),(0,qF 39 0 38),(0,oN (.store 1 39 37))]) (rR [0,6,20,21,22] [qM 40 6,qM 41 6,qK 42 41,qF 43 2 42,qL 44 43,oQ 45 (.eff .mkM []),oQ 46 (.eff (.bsR 1) [45]),oQ 47 (.eff (.oP 1) [44,46]),qK 48 40,qF 49 2 48,oN (.store 1 49 47)]))))) (rR [0,6,20,21,22] [oQ 50 (.bin .add 22 (.c (.int .i64 1))),qM 22 50]))))))) (.seq (.seq (rR [6,51,52,53] [qM 51 0,oQ 52 (.len false 51),oQ 53 (.mov (.c (.int .i64 0)))]) (.block 2 (.loop (.seq (rR [6,51,52,53,54] [oQ 54 (.bin .lss 53 52)]) (.seq (.cond 54 .skip (.exit 2)) (.seq (.block 3 (.seq (rR [6,10,51,52,53] [qI 55 3 51 53,qA 56 3 55,oQ 10 (.box (.c (.agg [(.int .i64 0),(.str ⟨⟨[]⟩⟩),(.sl .full [])]))),oN (.store 3 10 56)])
 (.mult [6,51,52,53] [(0,qM 57 6),(0,qM 58 6),(0,qK 59 58),(0,qF 60 1 59),(0,qL 61 60),(0,qA 62 3 10),(0,oQ 63 (cF 45 [62])),(2,oQ 64 (.eff (.bsR 3) [63])),(2,oQ 65 (.eff (.oP 3) [61,64])),(0,qK 66 57),(0,qF 67 1 66),(0,oN (.store 1 67 65))]))) (rR [6,51,52,53] [oQ 68 (.bin .add 53 (.c (.int .i64 1))),qM 53 68]))))))) (.seq (rR [6] [qM 69 6,oQ 70 (cF 46 [69])]) (.seq (rR [4,5] [qM 71 6,qM 4 71,oQ 5 (.mov (.c (.int .i64 0)))]) .ret)))))))
def uC:RC:=
 (.seq (rR [1] [oQ 1 (.box 0),oQ 2 (.mov (.c (.bool false)))]) (.seq (.seq (rR [1,19] [qF 6 0 1,qL 7 6,oQ 8 (cF 95 [7]),oQ 9 (.un .not 8),qM 10 9,oG 11 10 false (.aL 1 1),oG 12 10 false (.load false 1 11),oG 13 10 false (.bin .lss 12 (.c (.int .i64 0))),oQ 14 (.pick 10 (.c (.bool true)) 13),qM 15 14,oG 16 15 false (.aL 1 1),oG 17 15 false (.load false 1 16),oG 18 15 false (.bin .gtr 17 (.c (.int .i64 6))),oQ 19 (.pick 15 (.c (.bool true)) 18)]) (.cond 19 (.seq (rR [2] [oQ 2 (.mov (.c (.bool false)))]) .ret) .skip)) (.seq (rR [1,3] [oQ 3 (.mov (.c (.int .i64 (-1))))]) (.seq (.seq (rR [1,3,21,22,23] [qF 20 2 1,qL 21 20,oQ 22 (.len false 21),oQ 23 (.mov (.c (.int .i64 0)))]) (.block 0 (.loop (.seq (rR [1,3,21,22,23,24] [oQ 24 (.bin .lss 23 22)]) (.seq (.cond 24 .skip (.exit 0)) (.seq (.block 1 (.seq (rR [1,3,5,21,22,23] [qI 25 1 21 23,qL 26 25,qM 5 26])
 (.seq (.seq (rR [1,5,21,22,23,35] [qM 27 5,qM 28 3,oQ 29 (.bin .leq 27 28),qM 30 29,oG 31 30 false (.mov 5),oG 32 30 false (.aL 1 1),oG 33 30 false (.load false 1 32),oG 34 30 false (.bin .geq 31 33),oQ 35 (.pick 30 (.c (.bool true)) 34)]) (.cond 35 (.seq (rR [2] [oQ 2 (.mov (.c (.bool false)))]) .ret) .skip)) (rR [1,3,21,22,23] [qM 36 5,qM 3 36])))) (rR [1,3,21,22,23] [oQ 37 (.bin .add 23 (.c (.int .i64 1))),qM 23 37]))))))) (.seq (rR [2] [oQ 2 (.mov (.c (.bool true)))]) .ret)))))
theorem ez(hn:ab.length<=38)(h:SP Tryz.prog true ab bs uC [.slot 2] Q):AM.Sem Tryz.prog 43 ab bs Q:=
 oZ (keeps:=[(0,[1]),(1,[1,19]),(2,[2]),(3,[1,3]),(4,[1,3,21,22,23]),(5,[1,3,21,22,23,24]),(6,[1,3,5,21,22,23]),(7,[1,5,21,22,23,35]),(8,[2]),(9,[1,3,21,22,23]),(10,[1,3,21,22,23]),(11,[2])]) (solo:=[]) Tryz.func43 rfl hn h
def uD:RC:=
 (.seq (rR [1] [oQ 1 (.box 0),oQ 2 (.mov (.c (.bool false)))]) (.seq (rR [2] [qA 3 3 1,oQ 4 (cF 43 [3]),oQ 5 (.un .not 4),qM 2 5]) .ret))
theorem uS(hn:ab.length<=6)(h:SP Tryz.prog true ab bs uD [.slot 2] Q):AM.Sem Tryz.prog 42 ab bs Q:=
 oZ (keeps:=[(0,[1]),(1,[2])]) (solo:=[]) Tryz.func42 rfl hn h
def cp:RC:=
 (.seq (rR [0,1] [oQ 4 (.mov (.c (.bool false)))]) (.seq (rR [4] [qM 5 0,qM 6 1,oQ 7 (cF 94 [5,6]),oQ 8 (.bin .geq 7 (.c (.int .i64 0))),qM 4 8]) .ret))
theorem cq(hn:ab.length<=9)(h:SP Tryz.prog true ab bs cp [.slot 4] Q):AM.Sem Tryz.prog 41 ab bs Q:=
 oZ (keeps:=[(0,[0,1]),(1,[4])]) (solo:=[]) Tryz.func41 rfl hn h
def kP:RC:=
 (.seq (rR [0] [oQ 2 (.mov (.c (.sl .full [])))]) (.seq (.seq (rR [0,4] [qM 3 0,oQ 4 (.eff (.A5 false) [3])]) (.cond 4 (.seq (rR [2] [oQ 2 (.mov (.c (.sl .full [])))]) .ret) .skip)) (.seq (rR [2] [oQ 5 (.aM 1 []),qM 6 0,oQ 7 (.append 1 5 6),qM 2 7]) .ret)))
theorem k9(hn:ab.length<=8)(h:SP Tryz.prog true ab bs kP [.slot 2] Q):AM.Sem Tryz.prog 44 ab bs Q:=
 oZ (keeps:=[(0,[0]),(1,[0,4]),(2,[2]),(3,[2])]) (solo:=[]) Tryz.func44 rfl hn h
def jM:RC:=
 (.seq (.seq (rR [0,9,10,11] [qM 6 0,qK 7 6,qF 8 2 7,qL 9 8,oQ 10 (.len false 9),oQ 11 (.mov (.c (.int .i64 0)))]) (.block 0 (.loop (.seq (rR [0,9,10,11,12] [oQ 12 (.bin .lss 11 10)]) (.seq (.cond 12 .skip (.exit 0)) (.seq (.block 1 (.seq (rR [0,3,9,10,11] [qI 13 1 9 11,qL 14 13,qM 3 14]) (rR [0,9,10,11] [qM 15 3,oN (.eff (.tab .clr) [15])]))) (rR [0,9,10,11] [oQ 16 (.bin .add 11 (.c (.int .i64 1))),qM 11 16]))))))) (.seq (rR [0,20,21,22] [qM 17 0,qK 18 17,qF 19 1 18,qL 20 19,oQ 21 (.len false 20),oQ 22 (.mov (.c (.int .i64 0)))]) (.block 2 (.loop (.seq (rR [0,20,21,22,23] [oQ 23 (.bin .lss 22 21)]) (.seq (.cond 23 .skip (.exit 2)) (.seq (.block 3 (.seq (rR [0,5,20,21,22] [qI 24 3 20 22,qA 25 3 24,oQ 5 (.box (.c (.agg [(.int .i64 0),(.str ⟨⟨[]⟩⟩),(.sl .full [])]))),oN (.store 3 5 25)]) (rR [0,20,21,22] [qM 26 0,qA 27 3 5,oQ 28 (cF 51 [26,27])])))
 (rR [0,20,21,22] [oQ 29 (.bin .add 22 (.c (.int .i64 1))),qM 22 29]))))))))
theorem xc(hn:ab.length<=72)(h:SP Tryz.prog false ab bs AD [.slot 4,.slot 5] Q):AM.Sem Tryz.prog 11 ab bs Q:=
 oZ (keeps:=[(0,[0,1]),(1,[0,1,17]),(2,[4,5]),(3,[0,1,6]),(4,[0,6,20,21,22]),(5,[0,6,20,21,22,23]),(6,[0,6,8,20,21,22]),(7,[0,6,8,20,21,22]),(8,[0,6,20,21,22]),(9,[0,6,20,21,22]),(10,[0,6,20,21,22]),(11,[6,51,52,53]),(12,[6,51,52,53,54]),(13,[6,10,51,52,53]),(14,[6,51,52,53]),(15,[6,51,52,53]),(16,[6]),(17,[4,5]),(1000000,[36,37,46,47,64,65]),(2000008,[0,1,2,3,4,5,6,7,8,9,10]),(3000008,[0,0,0,0,0,0,2,2,0,0,0]),(2000014,[0,1,2,3,4,5,6,7,8,9,10,11]),(3000014,[0,0,0,0,0,0,0,2,2,0,0,0])]) (solo:=[]) Tryz.func11 rfl hn h
theorem jn(hn:ab.length<=30)(h:SP Tryz.prog false ab bs jM [] Q):AM.Sem Tryz.prog 46 ab bs Q:=
 oZ (keeps:=[(0,[0,9,10,11]),(1,[0,9,10,11,12]),(2,[0,3,9,10,11]),(3,[0,9,10,11]),(4,[0,9,10,11]),(5,[0,20,21,22]),(6,[0,20,21,22,23]),(7,[0,5,20,21,22]),(8,[0,20,21,22]),(9,[0,20,21,22])]) (solo:=[]) Tryz.func46 rfl hn h
end Go.CK
