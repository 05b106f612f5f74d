/-
  Texts of this bj joined (wip/gen/bundle.py),those declarations only that are needed:IxE IxF RcIxa IxG. By an AI agent.
-/
import Derived.Test.YtcjfkbdbcgmomaaGreatDoorBbc
set_option linter.unusedSimpArgs false
set_option linter.unusedVariables false
set_option maxRecDepth 100000
namespace Go.CK
open Go.AM Go.Proofs
def uD(op:Int):Bool:=decide (5<=op)&&decide (op<=12)
def ta(g:Gl):Bool:=uD g.op||decide (g.op=1)
def vH(g:Gl):Bool:=!uD g.op
def EX(hv:List Int)(g:Gl):Bool:=(aV (Tm.vss g.args)).all λv=>decide (v∈hv)
def k7(ds:List Dc)(h:At):Int:=qv ds h.name h.args.length
def Cr(ds:List Dc)(r:Rl):Int:=
 if fnz (r.ah.map (k7 ds))=0 then
  if fnz (r.goals.map (kA ds))=0 then
   if r.guard.all ta=true then
    if r.body.all vH=true then
     if r.guard.all (EX r.hvs)=true then 0 else 17
    else 10
   else 10
  else fnz (r.goals.map (kA ds))
 else fnz (r.ah.map (k7 ds))
theorem lf{l:List Tm}{n:Nat}(h:(Tm.vss l).length<=n):(aV (Tm.vss l)).length<=n:=by
 have:=cK (Tm.vss l) [];simp only[ZP] at this;unfold aV;omega
set_option maxHeartbeats 4000000 in
theorem Bi{ds:List Dc}{r:Rl}(hd:ds.length<=10000000)(hr:r.few):Fun Tryz.prog 118 [slA Dc.av ds,r.av] (.int .i64 (Cr ds r)):=by
 have h1:=hr.aE;have h2:=hr.remove;have h3:=hr.guard;have h4:=hr.body;have hhl:=r.bK;have hgl:=r.pL;have hgm:∀g∈r.guard,g.right=true:=λg hg=>hr.goals g (ZB _ hg);have hcl:=BM (ds:=ds) (l:=r.goals) hd (by omega) λg hg=>by have:=(Gl.a7 (hr.goals g hg)).1;omega
 have hvl:r.hvs.length<=2000:=lf (by have:=(gg hr.ah).2;omega)
 have hhv:=yv hr;refine Fun.of (gu (by simp) ?_) rfl rfl
 conv=>whnf
 repeat' (refine gF ?_;refine ag.fn (hG (x:=r) (by omega) (by omega)) ?_)<;>conv=>whnf
 refine az.count (fb:=true) (r.ah.length) (λst_ j=>st_.bD [(6,.int .i64 j)]) (λj=>∀i x,i<j->(r.ah.map (k7 ds))[i]? =some x->x=0) ?_ ?_ (λj hj hij=>?_) (λhij=>?_)
 .intro i x hi;omega
 .exact bq
 .obtain ⟨y,hy⟩:∃y,r.ah[j]? =some y:=⟨_,zA hj⟩;have hyj:(r.ah.map (k7 ds))[j]? =some (k7 ds y):=by simp[hy]
  have hya:=(At.a7 (hr.ah y (zE hy))).2.1;have hdc:=tn (n:=y.name) (a:=(y.args.length:Int)) hd
  by_cases hz:k7 ds y=0
  .rw [show qv ds y.name y.args.length=0 from hz] at hdc
   conv=>whnf
   repeat' (first|refine gG (a6.fn (hdc) ?_)|(refine gC ?_;first|refine .not ?_|refine gD (cI ?_))|refine gW (wI ?_)|refine gL (.map ?_)|refine gI (gM (iE ?_)))<;>conv=>whnf
   refine⟨λi x hi hx=>?_,?_⟩
   .by_cases e:i=j
    .subst e;rw[hyj] at hx;cases hx;exact hz
    .exact hij i x (by omega) hx
   exact bq
  .have hf:=BE hyj hz hij;have hz':¬qv ds y.name y.args.length=0:=hz;unfold Cr;rw[hf,if_neg hz]
   conv=>whnf
   repeat' (first|refine gG (a6.fn (hdc) ?_)|(refine gC ?_;first|refine .not ?_|(refine gD ?_;first|refine cI ?_|refine cJ ?_))|refine gL (.map ?_)|refine gI (gM (iE ?_))|refine ak.nrm ?_)<;>conv=>whnf
   rfl
 .have hf:fnz (r.ah.map (k7 ds))=0:=E6 λi x hi hx=>hij i x (by simpa using hi) hx
  clear hij;unfold Cr;rw[if_pos hf];clear hf
  by_cases hc:fnz (r.goals.map (kA ds))=0
  .rw [if_pos hc];rw[hc] at hcl
   conv=>whnf
   repeat' (first|(refine gF ?_;first|refine ag.fn (hP (x:=r) (by omega) (by omega)) ?_|refine ag.fn (hcl) ?_)|(refine gC ?_;first|refine .not ?_|(refine gD ?_;first|refine cI ?_|refine cJ ?_))|refine gL (.map ?_))<;>conv=>whnf
   refine az.count (fb:=true) (r.guard.length) (λst_ j=>st_.bD [(9,.int .i64 j)]) (λj=>∀i x,i<j->r.guard[i]? =some x->ta x=true) ?_ ?_ (λj hj hij=>?_) (λhij=>?_)
   .intro i x hi;omega
   .exact bq
   .obtain ⟨y,hy⟩:∃y,r.guard[j]? =some y:=⟨_,zA hj⟩;have ht:=uE y.op;rw[show (decide (5<=y.op)&&decide (y.op<=12))=uD y.op from rfl] at ht
    cases hb:uD y.op with
    |true=>
     rw[hb] at ht
     conv=>whnf
     repeat' (first|refine gF (ag.fn (ht) ?_)|(refine gC ?_;first|refine cY ?_|refine cN ?_|refine .not ?_|refine gD (cI ?_))|refine gW (wI ?_)|refine gL (.map ?_)|refine gI (gM (iE ?_)))<;>conv=>whnf
     refine⟨eV hij hy (by simp[ta,hb]),?_⟩
     exact bq
    |false=>
     rw[hb] at ht
     by_cases h1:y.op=1
     .conv=>whnf
      repeat' (first|refine gF (ag.fn (ht) ?_)|(refine gC ?_;first|refine cN ?_|refine .not ?_|refine gD (cI ?_))|refine gW (wI ?_)|refine gL (.map ?_)|refine gI (gM (iE ?_)))<;>conv=>whnf
      refine⟨eV hij hy (by simp[ta,h1]),?_⟩
      exact bq
     .have hn:=nX (p:=ta) hy (by simp[ta,hb,h1])
      rw[hn]
      conv=>whnf
      repeat' (first|refine gF (ag.fn (ht) ?_)|(refine gC ?_;first|refine cN ?_|refine .not ?_|(refine gD ?_;first|refine cI ?_|refine cJ ?_))|refine gL (.map ?_)|refine gI (gM (iE ?_))|refine ak.nrm ?_)<;>conv=>whnf
      rfl
   .have hga:r.guard.all ta=true:=zT.2 λx hx=>by
     obtain⟨i,hi,rfl⟩:=Zm hx;exact hij i _ hi (zA hi)
    rw[if_pos hga];clear hij hga
    conv=>whnf
    repeat' (first|refine gC (gD (cJ ?_))|refine gL (.map ?_))<;>conv=>whnf
    refine az.count (fb:=true) (r.body.length) (λst_ j=>st_.bD [(10,.int .i64 j)]) (λj=>∀i x,i<j->r.body[i]? =some x->vH x=true) ?_ ?_ (λj hj hij=>?_) (λhij=>?_)
    .intro i x hi;omega
    .exact bq
    .obtain ⟨y,hy⟩:∃y,r.body[j]? =some y:=⟨_,zA hj⟩;have ht:=uE y.op;rw[show (decide (5<=y.op)&&decide (y.op<=12))=uD y.op from rfl] at ht
     cases hb:uD y.op with
     |true=>
      rw[hb] at ht;have hn:=nX (p:=vH) hy (by simp[vH,hb])
      rw[hn]
      conv=>whnf
      repeat' (first|refine gF (ag.fn (ht) ?_)|(refine gC ?_;first|refine cY ?_|refine gD (cI ?_))|refine gL (.map ?_)|refine gI (gM (iE ?_))|refine ak.nrm ?_)<;>conv=>whnf
      rfl
     |false=>
      rw[hb] at ht
      conv=>whnf
      repeat' (first|refine gF (ag.fn (ht) ?_)|(refine gC ?_;first|refine cN ?_|refine gD (cI ?_))|refine gW (wI ?_)|refine gL (.map ?_)|refine gI (gM (iE ?_)))<;>conv=>whnf
      refine⟨eV hij hy (by simp[vH,hb]),?_⟩
      exact bq
    .have hba:r.body.all vH=true:=zT.2 λx hx=>by
      obtain⟨i,hi,rfl⟩:=Zm hx;exact hij i _ hi (zA hi)
     rw[if_pos hba];clear hij hba
     conv=>whnf
     repeat' (first|refine gF (ag.fn (hhv) ?_)|refine gC (gD (cJ ?_))|refine gL (.map ?_))<;>conv=>whnf
     refine az.count (fb:=true) (r.guard.length) (λst_ j=>st_.bD [(12,.int .i64 j)]) (λj=>∀i x,i<j->r.guard[i]? =some x->EX r.hvs x=true) ?_ ?_ (λj hj hij=>?_) (λhij=>?_)
     .intro i x hi;omega
     .exact bq
     .obtain ⟨y,hy⟩:∃y,r.guard[j]? =some y:=⟨_,zA hj⟩;have hys:=(Gl.a7 (hgm y (zE hy))).2;have hvs:=lf hys;have hgv:=rW (x:=y) (by omega)
      conv=>whnf
      repeat' (first|refine gF (ag.fn (hgv) ?_)|refine gC (gD (cI ?_))|refine gL (.map ?_)|refine gI (gM (iE ?_)))<;>conv=>whnf
      obtain⟨vs,hvse⟩:∃vs,vs=aV (Tm.vss y.args):=⟨_,rfl⟩;have hgo:EX r.hvs y=vs.all λv=>decide (v∈r.hvs):=by rw[hvse];rfl
      rw[<-hvse] at hvs;rw[<-hvse];clear hvse hgv;refine az.count (fb:=true) (vs.length) (λst_ k=>st_.bD [(14,.int .i64 k)]) (λk=>∀i x,i<k->vs[i]? =some x->decide (x∈r.hvs)=true) ?_ ?_ (λk hk hik=>?_) (λhik=>?_)
      .intro i x hi;omega
      .exact bq
      .obtain ⟨v,hv⟩:∃v,vs[k]? =some v:=⟨_,zA hk⟩;have hin:=Gk (l:=r.hvs) (n:=v) (by omega)
       cases hb:decide (v∈r.hvs) with
       |true=>
        rw[hb] at hin
        conv=>whnf
        repeat' (first|refine gF (ag.fn (hin) ?_)|(refine gC ?_;first|refine cY ?_|refine .not ?_|refine gD (cI ?_))|refine gW (wI ?_)|refine gL (.map ?_)|refine gI (gM (iE ?_)))<;>conv=>whnf
        refine⟨eV hik hv hb,?_⟩
        exact bq
       |false=>
        rw[hb] at hin;have hn:=nX (p:=EX r.hvs) hy (by rw[hgo];exact nX hv hb)
        rw[hn]
        conv=>whnf
        repeat' (first|refine gF (ag.fn (hin) ?_)|(refine gC ?_;first|refine cN ?_|refine .not ?_|refine gD (cI ?_))|refine gL (.map ?_)|refine gI (gM (iE ?_))|refine ak.nrm ?_)<;>conv=>whnf
        rfl
      .have hva:(vs.all λv=>decide (v∈r.hvs))=true:=zT.2 λx hx=>by
        obtain⟨i,hi,rfl⟩:=Zm hx;exact hik i _ hi (zA hi)
       conv=>whnf
       repeat' (first|refine gC (gD (cJ ?_))|refine gW (wI ?_)|refine gL (.map ?_))<;>conv=>whnf
       refine⟨eV hij hy (hgo.trans hva),?_⟩;exact bq
     .have hga:r.guard.all (EX r.hvs)=true:=zT.2 λx hx=>by
       obtain⟨i,hi,rfl⟩:=Zm hx;exact hij i _ hi (zA hi)
      rw[if_pos hga]
      conv=>whnf
      repeat' (first|refine gC (gD (cJ ?_))|refine gL (.map ?_)|refine ak.nrm ?_)<;>conv=>whnf
  .rw [if_neg hc]
   conv=>whnf
   repeat' (first|(refine gF ?_;first|refine ag.fn (hP (x:=r) (by omega) (by omega)) ?_|refine ag.fn (hcl) ?_)|(refine gC ?_;first|refine .not ?_|refine gD (cJ ?_))|refine gL (.map ?_)|refine ak.nrm ?_)<;>conv=>whnf
end Go.CK
namespace Go.CK
open Go.AM Go.Proofs
structure Rl.size(r:Rl):Prop where
 aE:r.aE.length<=2000000
 remove:r.remove.length<=2000000
 guard:r.guard.length<=2000000
 body:r.body.length<=2000000
 ah:∀h∈r.ah,Tm.bp h.args<=100000000
 goals:∀g∈r.goals,Tm.bp g.args<=100000000
def E9(r:Rl):Bool:=decide (¬r.ah.length=0)&&(decide (r.ah.length<=4)&&(decide (r.guard.length<=12)&&decide (r.body.length<=12)))
def nO(s:ByteArray):Bool:=decide (s=⟨⟨[]⟩⟩)||ek s
def oi(ds:List Dc)(r:Rl):Int:=
 if E9 r=true then
  if r.ah.all At.right=true then
   if r.goals.all Gl.right=true then
    if r.avs=upI r.avs.length then
     if r.vars=r.avs.length then
      if nO r.name=true then Cr ds r else 7
     else 2
    else 2
   else 2
  else 2
 else 6
set_option maxHeartbeats 4000000 in
theorem w4{ds:List Dc}{r:Rl}(hd:ds.length<=10000000)(hs:r.size):Fun Tryz.prog 63 [slA Dc.av ds,r.av] (.int .i64 (oi ds r)):=by
 have h1:=hs.aE;have h2:=hs.remove;have h3:=hs.guard;have h4:=hs.body;have hhl:=r.bK;have hgl:=r.pL;unfold oi
 by_cases hf:E9 r=true
 .rw [if_pos hf];simp only[E9,zD,decide_eq_true_eq] at hf;obtain⟨f1,f2,f3,f4⟩:=hf;refine Fun.of (cz (by simp) ?_) rfl rfl
  conv=>whnf
  repeat' (first|(refine gF ?_;first|refine ag.fn (hG (x:=r) (by omega) (by omega)) ?_|refine ag.fn (hP (x:=r) (by omega) (by omega)) ?_)|refine gC (gD (cJ ?_))|refine gL (.map ?_))<;>conv=>whnf
  refine az.count (fb:=true) (r.ah.length) (λst_ j=>st_.bD [(7,.int .i64 j)]) (λj=>∀i x,i<j->r.ah[i]? =some x->x.right=true) ?_ ?_ (λj hj hij=>?_) (λhij=>?_)
  .intro i x hi;omega
  .exact bq
  .obtain ⟨y,hy⟩:∃y,r.ah[j]? =some y:=⟨_,zA hj⟩;have hym:=hs.ah y (zE hy);have hyl:=gJ y.args;have hr:=ly y (by omega) (by omega)
   cases hb:y.right with
   |true=>
    rw[hb] at hr
    conv=>whnf
    repeat' (first|refine gF (ag.fn (hr) ?_)|(refine gC ?_;first|refine cY ?_|refine .not ?_|refine gD (cI ?_))|refine gW (wI ?_)|refine gL (.map ?_)|refine gI (gM (iE ?_)))<;>conv=>whnf
    refine⟨eV hij hy hb,?_⟩
    exact bq
   |false=>
    rw[hb] at hr;rw[nX (p:=At.right) hy hb]
    conv=>whnf
    repeat' (first|refine gF (ag.fn (hr) ?_)|(refine gC ?_;first|refine cN ?_|refine .not ?_|refine gD (cI ?_))|refine gL (.map ?_)|refine gI (gM (iE ?_))|refine ak.nrm ?_)<;>conv=>whnf
    all_goals rfl
  .have hha:r.ah.all At.right=true:=xn hij;rw[if_pos hha];clear hij
   conv=>whnf
   repeat' (first|refine gC (gD (cJ ?_))|refine gL (.map ?_))<;>conv=>whnf
   refine az.count (fb:=true) (r.goals.length) (λst_ j=>st_.bD [(8,.int .i64 j)]) (λj=>∀i x,i<j->r.goals[i]? =some x->x.right=true) ?_ ?_ (λj hj hij=>?_) (λhij=>?_)
   .intro i x hi;omega
   .exact bq
   .obtain ⟨y,hy⟩:∃y,r.goals[j]? =some y:=⟨_,zA hj⟩;have hym:=hs.goals y (zE hy);have hyl:=gJ y.args;have hr:=qD y (by omega) (by omega)
    cases hb:y.right with
    |true=>
     rw[hb] at hr
     conv=>whnf
     repeat' (first|refine gF (ag.fn (hr) ?_)|(refine gC ?_;first|refine cY ?_|refine .not ?_|refine gD (cI ?_))|refine gW (wI ?_)|refine gL (.map ?_)|refine gI (gM (iE ?_)))<;>conv=>whnf
     refine⟨eV hij hy hb,?_⟩
     exact bq
    |false=>
     rw[hb] at hr;rw[nX (p:=Gl.right) hy hb]
     conv=>whnf
     repeat' (first|refine gF (ag.fn (hr) ?_)|(refine gC ?_;first|refine cN ?_|refine .not ?_|refine gD (cI ?_))|refine gL (.map ?_)|refine gI (gM (iE ?_))|refine ak.nrm ?_)<;>conv=>whnf
     all_goals rfl
   .have hga:r.goals.all Gl.right=true:=xn hij;rw[if_pos hga];clear hij;have hfew:r.few:=⟨by omega,by omega,f3,f4,λh hh=>zT.1 hha h hh,λg hg=>zT.1 hga g hg⟩
    have hvok:=CT hfew
    have hvl:r.avs.length<=20000:=by
     have e1:=(gg hfew.ah).2;have e2:=(p5 hfew.goals).2;refine lf ?_;rw[iw,zC];omega
    have hme:=Bi (ds:=ds) hd hfew
    conv=>whnf
    repeat' (first|refine gF (ag.fn (hvok) ?_)|refine gC (gD (cJ ?_))|refine gL (.map ?_))<;>conv=>whnf
    generalize r.avs=v at*;refine az.count (fb:=true) (v.length) (λst_ j=>st_.bD [(10,.int .i64 j)]) (λj=>∀i x,i<j->v[i]? =some x->x=(i:Int)) ?_ ?_ (λj hj hij=>?_) (λhij=>?_)
    .intro i x hi;omega
    .exact bq
    .obtain ⟨y,hy⟩:∃y,v[j]? =some y:=⟨_,zA hj⟩
     by_cases hb:y=(j:Int)
     .conv=>whnf
      repeat' (first|(refine gC ?_;first|refine .not ?_|refine gD (cI ?_))|refine gW (wI ?_)|refine gL (.map ?_)|refine gI (gM (iE ?_)))<;>conv=>whnf
      refine⟨λi x hi hx=>?_,?_⟩
      .by_cases e:i=j
       .subst e;rw[hy] at hx;cases hx;exact hb
       .exact hij i x (by omega) hx
      exact bq
     .have hn:¬v=upI v.length:=λe=>by
       have h5:=DU (n:=v.length) hj;rw[<-e,hy] at h5;cases h5;exact hb rfl
      rw[if_neg hn]
      conv=>whnf
      repeat' (first|(refine gC ?_;first|refine .not ?_|(refine gD ?_;first|refine cI ?_|refine cJ ?_))|refine gL (.map ?_)|refine gI (gM (iE ?_))|refine ak.nrm ?_)<;>conv=>whnf
    .have hup:v=upI v.length:=by
      refine List.ext_getElem? λi=>?_
      by_cases hi:i<v.length
      .rw [DU hi,zA hi,hij i _ hi (zA hi)]
      .rw [zS (by omega),zS (by rw[n9];omega)]
     rw[if_pos hup];clear hij hup
     by_cases hvs:r.vars=v.length
     .rw [if_pos hvs];have hnr:=mQ r.name
      by_cases hn0:r.name=⟨⟨[]⟩⟩
      .rw [show nO r.name=true by simp[nO,hn0],if_pos rfl]
       conv=>whnf
       repeat' (first|refine gF (ag.fn (hme) ?_)|(refine gC ?_;first|refine cN ?_|refine .not ?_|(refine gD ?_;first|refine cI ?_|refine cJ ?_))|refine gL (.map ?_)|refine ak.nrm ?_)<;>conv=>whnf
      .cases hnb:ek r.name with
       |true=>
        rw[hnb] at hnr;rw[show nO r.name=true by simp[nO,hnb],if_pos rfl]
        conv=>whnf
        repeat' (first|(refine gF ?_;first|refine ag.fn (hnr) ?_|refine ag.fn (hme) ?_)|(refine gC ?_;first|refine cY ?_|refine .not ?_|(refine gD ?_;first|refine cI ?_|refine cJ ?_))|refine gL (.map ?_)|refine ak.nrm ?_)<;>conv=>whnf
       |false=>
        rw[hnb] at hnr;rw[show nO r.name=false by simp[nO,hnb,hn0],if_neg (by decide)]
        conv=>whnf
        repeat' (first|refine gF (ag.fn (hnr) ?_)|(refine gC ?_;first|refine cN ?_|refine .not ?_|(refine gD ?_;first|refine cI ?_|refine cJ ?_))|refine gL (.map ?_)|refine ak.nrm ?_)<;>conv=>whnf
     .rw [if_neg hvs]
      conv=>whnf
      repeat' (first|(refine gC ?_;first|refine .not ?_|refine gD (cJ ?_))|refine gL (.map ?_)|refine ak.nrm ?_)<;>conv=>whnf
 .rw [if_neg hf];simp only[E9,zD,decide_eq_true_eq,not_and] at hf;refine Fun.of (cz (by simp) ?_) rfl rfl
  conv=>whnf
  repeat' (first|(refine gF ?_;first|refine ag.fn (hG (x:=r) (by omega) (by omega)) ?_|refine ag.fn (hP (x:=r) (by omega) (by omega)) ?_)|(refine gC ?_;first|refine cY ?_|(refine gD ?_;first|refine cI ?_|refine cJ ?_)|refine ae.lt (λhc=>?_) (λhc=>?_)|refine ae.dec (λhc=>?_) (λhc=>?_))|refine gL (.map ?_)|refine ak.nrm ?_)<;>conv=>whnf
  all_goals (exfalso;apply hf<;>omega)
def dcI(seen:List Dc):List Dc->Int
 |[]=>0
 |d::l=>if ek d.name=true then
   if 0<=d.arity/\d.arity<=6 then
    if tp seen d.name d.arity=true then 8 else dcI (seen++[d]) l
   else 9
  else 7
def lT(ds:List Dc):List Rl->Int->Int×Int
 |[],_=>(0,0)
 |r::l,i=>if oi ds r=0 then lT ds l (i+1) else (i,oi ds r)
def nW(p:Pg):Int×Int:=
 if p.decls.length<=30 then
  if dcI [] p.decls=0 then
   if p.rules.length<=40 then lT p.decls p.rules 0 else (-1,6)
  else (-1,dcI [] p.decls)
 else (-1,6)
set_option maxHeartbeats 4000000 in
theorem Fk{p:Pg}(hd:p.decls.length<=2000000)(hr:p.rules.length<=2000000)(hs:∀r∈p.rules,r.size):Fun Tryz.prog 19 [p.av] (.tup [.int .i64 (nW p).1,.int .i64 (nW p).2]):=by
 unfold nW
 by_cases h30:p.decls.length<=30
 .rw [if_pos h30];refine Fun.of (dm (by simp) ?_) rfl rfl
  conv=>whnf
  repeat' (first|refine gC (gD (cJ ?_))|refine gL (.map ?_))<;>conv=>whnf
  refine az.count (fb:=true) (p.decls.length) (λst_ j=>st_.bD [(4,.int .i64 j)]) (λj=>dcI [] p.decls=dcI (p.decls.take j) (p.decls.drop j)) ?_ ?_ (λj hj hij=>?_) (λhij=>?_)
  .rfl
  .exact bq
  .obtain ⟨y,hy⟩:∃y,p.decls[j]? =some y:=⟨_,zA hj⟩
   have htk:p.decls.take (j+1)=p.decls.take j++[y]:=by
    rw[List.take_succ_eq_append_getElem hj,(zB.1 hy).2]
   have htl:(p.decls.take j).length<=30:=by have:=List.length_take_le' j p.decls;omega
   have hnr:=mQ y.name;have hdc:=qu (ds:=p.decls.take j) (n:=y.name) (a:=y.arity) (by omega)
   rw[show slA Dc.av (p.decls.take j)=.sl .no (List.drop (Int.toNat 0) (List.take (j:Int).toNat (p.decls.map Dc.av))) by simp[slA,List.map_take]] at hdc
   rw[zH hj,(zB.1 hy).2,dcI] at hij
   cases hnb:ek y.name with
   |false=>
    rw[hnb] at hnr;rw[hnb,if_neg (by decide)] at hij
    rw[hij,if_neg (by decide)]
    conv=>whnf
    repeat' (first|refine gF (ag.fn (hnr) ?_)|(refine gC ?_;first|refine cN ?_|refine .not ?_|refine gD (cI ?_))|refine gL (.map ?_)|refine gI (gM (iE ?_))|refine ak.nrm ?_)<;>conv=>whnf
   |true=>
    rw[hnb] at hnr;rw[hnb,if_pos rfl] at hij
    by_cases ha:0<=y.arity/\y.arity<=6
    .rw [if_pos ha] at hij
     cases hdb:tp (p.decls.take j) y.name y.arity with
     |true=>
      rw[hdb] at hdc;rw[hdb,if_pos rfl] at hij;rw[hij,if_neg (by decide)]
      conv=>whnf
      repeat' (first|refine gF (ag.fn (hnr) ?_)|refine gG (a6.fn (hdc) ?_)|(refine gC ?_;first|refine cY ?_|refine .not ?_|(refine gD ?_;first|refine cI ?_|refine cJ ?_))|refine gL (.map ?_)|refine gN (nS ?_)|refine gI (gM (iE ?_))|refine ak.nrm ?_)<;>conv=>whnf
     |false=>
      rw[hdb] at hdc;rw[hdb,if_neg (by decide),<-htk] at hij
      conv=>whnf
      repeat' (first|refine gF (ag.fn (hnr) ?_)|refine gG (a6.fn (hdc) ?_)|(refine gC ?_;first|refine cY ?_|refine cN ?_|refine .not ?_|(refine gD ?_;first|refine cI ?_|refine cJ ?_))|refine gW (wI ?_)|refine gL (.map ?_)|refine gN (nS ?_)|refine gI (gM (iE ?_)))<;>conv=>whnf
      refine⟨hij,?_⟩;refine aq.atC 1 ?_ rfl rfl rfl rfl (by first|rfl|(repeat' (first|rfl|refine ao (row_allI _ _ _) ?_|refine ao (aw _ _ _) ?_|refine bLtMp ?_|refine aB ?_|refine bLtCells rfl ?_)))
      conv=>whnf
      refine And.intro ?_ ?_<;>conv=>whnf
      all_goals repeat' (first|(refine gV ?_;first|refine vE ?_|refine vI ?_)|refine gX (xB ?_)|exact True.intro)<;>conv=>whnf
    .rw [if_neg ha] at hij;rw[hij,if_neg (by decide)]
     conv=>whnf
     repeat' (first|refine gF (ag.fn (hnr) ?_)|(refine gC ?_;first|refine cY ?_|refine .not ?_|(refine gD ?_;first|refine cI ?_|refine cJ ?_)|refine ae.lt (λhc=>?_) (λhc=>?_))|refine gL (.map ?_)|refine gI (gM (iE ?_))|refine ak.nrm ?_)<;>conv=>whnf
     all_goals (exfalso;apply ha;constructor<;>omega)
  .rw [zj,dcI] at hij;rw[if_pos hij];clear hij
   by_cases h40:p.rules.length<=40
   .rw [if_pos h40]
    conv=>whnf
    repeat' (first|refine gC (gD (cJ ?_))|refine gL (.map ?_))<;>conv=>whnf
    refine az.count (fb:=true) (p.rules.length) (λst_ j=>st_.bD [(6,.int .i64 j)]) (λj=>lT p.decls p.rules 0=lT p.decls (p.rules.drop j) (j:Int)) ?_ ?_ (λj hj hij=>?_) (λhij=>?_)
    .rfl
    .exact bq
    .obtain ⟨y,hy⟩:∃y,p.rules[j]? =some y:=⟨_,zA hj⟩;have hcr:=w4 (ds:=p.decls) (r:=y) (by omega) (hs y (zE hy))
     rw[zH hj,(zB.1 hy).2,lT] at hij
     by_cases hz:oi p.decls y=0
     .rw [hz] at hcr;rw[if_pos hz] at hij
      conv=>whnf
      repeat' (first|refine gG (a6.fn (hcr) ?_)|(refine gC ?_;first|refine .not ?_|refine gD (cI ?_))|refine gW (wI ?_)|refine gL (.map ?_)|refine gI (gM (iE ?_)))<;>conv=>whnf
      refine⟨by rw[hij];rfl,?_⟩
      exact bq
     .rw [if_neg hz] at hij;rw[hij]
      conv=>whnf
      repeat' (first|refine gG (a6.fn (hcr) ?_)|(refine gC ?_;first|refine .not ?_|(refine gD ?_;first|refine cI ?_|refine cJ ?_))|refine gL (.map ?_)|refine gI (gM (iE ?_))|refine ak.nrm ?_)<;>conv=>whnf
    .rw [zj,lT] at hij;rw[hij]
     conv=>whnf
     repeat' (first|refine gC (gD (cJ ?_))|refine gL (.map ?_)|refine ak.nrm ?_)<;>conv=>whnf
   .rw [if_neg h40]
    conv=>whnf
    repeat' (first|(refine gC ?_;(refine gD ?_;first|refine cI ?_|refine cJ ?_))|refine gL (.map ?_)|refine ak.nrm ?_)<;>conv=>whnf
 .rw [if_neg h30];refine Fun.of (dm (by simp) ?_) rfl rfl
  conv=>whnf
  repeat' (first|refine gC (gD (cI ?_))|refine gL (.map ?_)|refine ak.nrm ?_)<;>conv=>whnf
end Go.CK
namespace Go.CK
open Go.AM Go.Proofs
variable{ab:List AV}{bs:List Box}{Q:AV->List Box->Prop}
def wy:RC:=
 (.seq (rR [0,1] [oQ 4 (.mov (.c .pz)),oQ 5 (.mov (.c (.int .i64 0)))]) (.seq (.seq (rR [0,1,17] [qM 11 0,oQ 12 (cF 40 [11]),oQ 13 (.un .not 12),qM 14 13,oG 15 14 false (.mov 1),oG 16 14 false (cF 41 [15,(.c (.fn (.func 42) [] []))]),oQ 17 (.pick 14 (.c (.bool true)) 16)]) (.cond 17 (.seq (rR [4,5] [oQ 4 (.mov (.c .pz)),oQ 5 (.mov (.c (.int .i64 2)))]) .ret) .skip)) (.seq (rR [0,1,6] [oQ 18 (.build [(.sl .full []),(.sl .full []),(.sl .full [])] []),oQ 19 (.box 18),qM 6 19]) (.seq (.seq (rR [0,6,20,21,22] [qM 20 1,oQ 21 (.len false 20),oQ 22 (.mov (.c (.int .i64 0)))]) (.block 0 (.loop (.seq (rR [0,6,20,21,22,23] [oQ 23 (.bin .lss 22 21)]) (.seq (.cond 23 .skip (.exit 0)) (.seq (.block 1 (.seq (rR [0,6,8,20,21,22] [qI 24 3 20 22,qA 25 3 24,oQ 8 (.box (.c (.agg [(.str ⟨⟨[]⟩⟩),(.int .i64 0),(.sl .full [])]))),oN (.store 3 8 25)]) (.seq (rR [0,6,8,20,21,22] [
 qF 26 2 8,qL 27 26,oQ 28 (cF 44 [27]),qF 29 2 8,oN (.store 1 29 28)]) (.seq (.mult [0,6,20,21,22] [(0,qM 30 6),(0,qM 31 6),(0,qK 32 31),(0,qF 33 0 32),(0,qL 34 33),(0,qA 35 3 8),(2,oQ 36 (.eff (.bsR 3) [35])),(2,oQ 37 (.eff (.tM 3) [34,36])),(0,qK 38 30),(0,qF 39 0 38),(0,oN (.store 1 39 37))]) (rR [0,6,20,21,22] [qM 40 6,qM 41 6,qK 42 41,qF 43 2 42,qL 44 43,oQ 45 (.eff .mkM []),oQ 46 (.eff (.bsR 1) [45]),oQ 47 (.eff (.tM 1) [44,46]),qK 48 40,qF 49 2 48,oN (.store 1 49 47)]))))) (rR [0,6,20,21,22] [oQ 50 (.bin .add 22 (.c (.int .i64 1))),qM 22 50]))))))) (.seq (.seq (rR [6,51,52,53] [qM 51 0,oQ 52 (.len false 51),oQ 53 (.mov (.c (.int .i64 0)))]) (.block 2 (.loop (.seq (rR [6,51,52,53,54] [oQ 54 (.bin .lss 53 52)]) (.seq (.cond 54 .skip (.exit 2)) (.seq (.block 3 (.seq (rR [6,10,51,52,53] [qI 55 3 51 53,qA 56 3 55,oQ 10 (.box (.c (.agg [(.int .i64 0),(.str ⟨⟨[]⟩⟩),(.sl .full [])]))),oN (.store 3 10 56)])
 (.reg true [6,51,52,53] [qM 57 6,qM 58 6,qK 59 58,qF 60 1 59,qL 61 60,qA 62 3 10,oQ 63 (cF 45 [62]),oQ 64 (.aQ 3 [63]),oQ 65 (.append 3 61 64),qK 66 57,qF 67 1 66,oN (.store 1 67 65)]))) (rR [6,51,52,53] [oQ 68 (.bin .add 53 (.c (.int .i64 1))),qM 53 68]))))))) (.seq (rR [6] [qM 69 6,oQ 70 (cF 46 [69])]) (.seq (rR [4,5] [qM 71 6,qM 4 71,oQ 5 (.mov (.c (.int .i64 0)))]) .ret)))))))
def sa:RC:=
 (.seq (rR [1] [oQ 1 (.box 0),oQ 2 (.mov (.c (.bool false)))]) (.seq (.seq (rR [1,19] [qF 6 0 1,qL 7 6,oQ 8 (cF 95 [7]),oQ 9 (.un .not 8),qM 10 9,oG 11 10 false (.aZ 1 1),oG 12 10 false (.load false 1 11),oG 13 10 false (.bin .lss 12 (.c (.int .i64 0))),oQ 14 (.pick 10 (.c (.bool true)) 13),qM 15 14,oG 16 15 false (.aZ 1 1),oG 17 15 false (.load false 1 16),oG 18 15 false (.bin .gtr 17 (.c (.int .i64 6))),oQ 19 (.pick 15 (.c (.bool true)) 18)]) (.cond 19 (.seq (rR [2] [oQ 2 (.mov (.c (.bool false)))]) .ret) .skip)) (.seq (rR [1,3] [oQ 3 (.mov (.c (.int .i64 (-1))))]) (.seq (.seq (rR [1,3,21,22,23] [qF 20 2 1,qL 21 20,oQ 22 (.len false 21),oQ 23 (.mov (.c (.int .i64 0)))]) (.block 0 (.loop (.seq (rR [1,3,21,22,23,24] [oQ 24 (.bin .lss 23 22)]) (.seq (.cond 24 .skip (.exit 0)) (.seq (.block 1 (.seq (rR [1,3,5,21,22,23] [qI 25 1 21 23,qL 26 25,qM 5 26])
 (.seq (.seq (rR [1,5,21,22,23,35] [qM 27 5,qM 28 3,oQ 29 (.bin .leq 27 28),qM 30 29,oG 31 30 false (.mov 5),oG 32 30 false (.aZ 1 1),oG 33 30 false (.load false 1 32),oG 34 30 false (.bin .geq 31 33),oQ 35 (.pick 30 (.c (.bool true)) 34)]) (.cond 35 (.seq (rR [2] [oQ 2 (.mov (.c (.bool false)))]) .ret) .skip)) (rR [1,3,21,22,23] [qM 36 5,qM 3 36])))) (rR [1,3,21,22,23] [oQ 37 (.bin .add 23 (.c (.int .i64 1))),qM 23 37]))))))) (.seq (rR [2] [oQ 2 (.mov (.c (.bool true)))]) .ret)))))
theorem dK(hn:ab.length<=38)(h:SP Tryz.prog true ab bs sa [.slot 2] Q):AM.Sem Tryz.prog 43 ab bs Q:=
 oZ (keeps:=[(0,[1]),(1,[1,19]),(2,[2]),(3,[1,3]),(4,[1,3,21,22,23]),(5,[1,3,21,22,23,24]),(6,[1,3,5,21,22,23]),(7,[1,5,21,22,23,35]),(8,[2]),(9,[1,3,21,22,23]),(10,[1,3,21,22,23]),(11,[2])]) (solo:=[]) Tryz.func43 rfl hn h
def sb:RC:=
 (.seq (rR [1] [oQ 1 (.box 0),oQ 2 (.mov (.c (.bool false)))]) (.seq (rR [2] [qA 3 3 1,oQ 4 (cF 43 [3]),oQ 5 (.un .not 4),qM 2 5]) .ret))
theorem su(hn:ab.length<=6)(h:SP Tryz.prog true ab bs sb [.slot 2] Q):AM.Sem Tryz.prog 42 ab bs Q:=
 oZ (keeps:=[(0,[1]),(1,[2])]) (solo:=[]) Tryz.func42 rfl hn h
def b6:RC:=
 (.seq (rR [0,1] [oQ 4 (.mov (.c (.bool false)))]) (.seq (rR [4] [qM 5 0,qM 6 1,oQ 7 (cF 94 [5,6]),oQ 8 (.bin .geq 7 (.c (.int .i64 0))),qM 4 8]) .ret))
theorem b7(hn:ab.length<=9)(h:SP Tryz.prog true ab bs b6 [.slot 4] Q):AM.Sem Tryz.prog 41 ab bs Q:=
 oZ (keeps:=[(0,[0,1]),(1,[4])]) (solo:=[]) Tryz.func41 rfl hn h
def jU:RC:=
 (.seq (rR [0] [oQ 2 (.mov (.c (.sl .full [])))]) (.seq (.seq (rR [0,4] [qM 3 0,oQ 4 (.eff (.Bf false) [3])]) (.cond 4 (.seq (rR [2] [oQ 2 (.mov (.c (.sl .full [])))]) .ret) .skip)) (.seq (rR [2] [oQ 5 (.aQ 1 []),qM 6 0,oQ 7 (.append 1 5 6),qM 2 7]) .ret)))
theorem j7(hn:ab.length<=8)(h:SP Tryz.prog true ab bs jU [.slot 2] Q):AM.Sem Tryz.prog 44 ab bs Q:=
 oZ (keeps:=[(0,[0]),(1,[0,4]),(2,[2]),(3,[2])]) (solo:=[]) Tryz.func44 rfl hn h
def ja:RC:=
 (.seq (.seq (rR [0,9,10,11] [qM 6 0,qK 7 6,qF 8 2 7,qL 9 8,oQ 10 (.len false 9),oQ 11 (.mov (.c (.int .i64 0)))]) (.block 0 (.loop (.seq (rR [0,9,10,11,12] [oQ 12 (.bin .lss 11 10)]) (.seq (.cond 12 .skip (.exit 0)) (.seq (.block 1 (.seq (rR [0,3,9,10,11] [qI 13 1 9 11,qL 14 13,qM 3 14]) (rR [0,9,10,11] [qM 15 3,oN (.eff (.tab .clr) [15])]))) (rR [0,9,10,11] [oQ 16 (.bin .add 11 (.c (.int .i64 1))),qM 11 16]))))))) (.seq (rR [0,20,21,22] [qM 17 0,qK 18 17,qF 19 1 18,qL 20 19,oQ 21 (.len false 20),oQ 22 (.mov (.c (.int .i64 0)))]) (.block 2 (.loop (.seq (rR [0,20,21,22,23] [oQ 23 (.bin .lss 22 21)]) (.seq (.cond 23 .skip (.exit 2)) (.seq (.block 3 (.seq (rR [0,5,20,21,22] [qI 24 3 20 22,qA 25 3 24,oQ 5 (.box (.c (.agg [(.int .i64 0),(.str ⟨⟨[]⟩⟩),(.sl .full [])]))),oN (.store 3 5 25)]) (rR [0,20,21,22] [qM 26 0,qA 27 3 5,oQ 28 (cF 51 [26,27])])))
 (rR [0,20,21,22] [oQ 29 (.bin .add 22 (.c (.int .i64 1))),qM 22 29]))))))))
theorem uq(hn:ab.length<=72)(h:SP Tryz.prog false ab bs wy [.slot 4,.slot 5] Q):AM.Sem Tryz.prog 11 ab bs Q:=
 oZ (keeps:=[(0,[0,1]),(1,[0,1,17]),(2,[4,5]),(3,[0,1,6]),(4,[0,6,20,21,22]),(5,[0,6,20,21,22,23]),(6,[0,6,8,20,21,22]),(7,[0,6,8,20,21,22]),(8,[0,6,20,21,22]),(9,[0,6,20,21,22]),(10,[0,6,20,21,22]),(11,[6,51,52,53]),(12,[6,51,52,53,54]),(13,[6,10,51,52,53]),(14,[6,51,52,53]),(15,[6,51,52,53]),(16,[6]),(17,[4,5]),(1000000,[36,37,46,47]),(2000008,[0,1,2,3,4,5,6,7,8,9,10]),(3000008,[0,0,0,0,0,0,2,2,0,0,0])]) (solo:=[]) Tryz.func11 rfl hn h
theorem iv(hn:ab.length<=30)(h:SP Tryz.prog false ab bs ja [] Q):AM.Sem Tryz.prog 46 ab bs Q:=
 oZ (keeps:=[(0,[0,9,10,11]),(1,[0,9,10,11,12]),(2,[0,3,9,10,11]),(3,[0,9,10,11]),(4,[0,9,10,11]),(5,[0,20,21,22]),(6,[0,20,21,22,23]),(7,[0,5,20,21,22]),(8,[0,20,21,22]),(9,[0,20,21,22])]) (solo:=[]) Tryz.func46 rfl hn h
end Go.CK
namespace Go.CK
open Go.AM Go.Proofs
def xU(n:Int):Int->List Int->Bool
 |_,[]=>true
 |last,p::l=>decide (last<p)&&(decide (p<n)&&xU n p l)
def Ac.right(a:Ac):Bool:=ek a.name&&(decide (0<=a.arity)&&(decide (a.arity<=6)&&xU a.arity (-1) a.positions))
def ve(l:List Int)(j:Nat):Int:=match j with
 |0=>-1
 |j+1=>l.getD j 0
theorem BZ{a:Ac}(hl:a.positions.length<=10000000):Fun Tryz.prog 43 [a.av] (.bool a.right):=by
 have hn:=Ei a.name;unfold Ac.right
 cases hb:ek a.name with
 |false=>
  rw[hb] at hn;refine Fun.of (dK (by simp) ?_) rfl rfl
  conv=>whnf
  repeat' (first|refine gF (ag.fn (hn) ?_)|(refine gC ?_;first|refine cY ?_|refine cN ?_|refine .not ?_)|refine ak.nrm ?_)<;>conv=>whnf
  rfl
 |true=>
  rw[hb] at hn
  by_cases h0:0<=a.arity
  .rw [decide_eq_true h0]
   by_cases h6:a.arity<=6
   .rw [decide_eq_true h6];refine Fun.of (dK (by simp) ?_) rfl rfl
    conv=>whnf
    repeat' (first|refine gF (ag.fn (hn) ?_)|(refine gC ?_;first|refine cY ?_|refine .not ?_|refine gD (cJ ?_))|refine gL (.map ?_))<;>conv=>whnf
    refine az.count (fb:=true) (a.positions.length) (λst_ j=>st_.bD [(3,.int .i64 (ve a.positions j)),(23,.int .i64 j)]) (λj=>xU a.arity (-1) a.positions=xU a.arity (ve a.positions j) (a.positions.drop j)) ?_ ?_ (λj hj hij=>?_) (λhij=>?_)
    .rfl
    .refine aq.at_ ?_ rfl
     conv=>whnf
     refine And.intro ?_ ?_<;>conv=>whnf
     all_goals repeat' (first|(refine gV ?_;first|refine vE ?_|refine vI ?_|(refine WkN.norm ?_ ?_;(focus (simp[AV.norm,AV.aj,ve];done))))|refine gX (xB ?_)|exact True.intro)<;>conv=>whnf
    .obtain ⟨y,hy⟩:∃y,a.positions[j]? =some y:=⟨_,zA hj⟩;rw[zH hj,(zB.1 hy).2,xU] at hij;have hla:ve a.positions (j+1)=y:=by simp[ve,hy]
     generalize ve a.positions j=la at*
     by_cases h1:la<y
     .rw [decide_eq_true h1,za] at hij
      by_cases h2:y<a.arity
      .rw [decide_eq_true h2,za] at hij
       conv=>whnf
       repeat' (first|(refine gC ?_;(refine gD ?_;first|refine cI ?_|refine cJ ?_))|refine gW (wI ?_)|refine gI (gM (iE ?_)))<;>conv=>whnf
       refine⟨by rw[hla];exact hij,?_⟩
       refine aq.atC 1 ?_ rfl rfl rfl rfl (by first|rfl|(repeat' (first|rfl|refine ao (row_allI _ _ _) ?_|refine ao (aw _ _ _) ?_|refine bLtMp ?_|refine aB ?_|refine bLtCells rfl ?_)))
       conv=>whnf
       refine And.intro ?_ ?_<;>conv=>whnf
       all_goals repeat' (first|(refine gV ?_;first|refine vE ?_|refine vI ?_)|refine gX (xB ?_)|exact True.intro)<;>conv=>whnf
      .rw [decide_eq_false h2,zw] at hij;rw[hij]
       conv=>whnf
       repeat' (first|(refine gC ?_;(refine gD ?_;first|refine cI ?_|refine cJ ?_))|refine gI (gM (iE ?_))|refine ak.nrm ?_)<;>conv=>whnf
       all_goals rfl
     .rw [decide_eq_false h1,zw] at hij;rw[hij]
      conv=>whnf
      repeat' (first|(refine gC ?_;first|refine cY ?_|refine gD (cI ?_))|refine gI (gM (iE ?_))|refine ak.nrm ?_)<;>conv=>whnf
      all_goals rfl
    .rw [zj,xU] at hij;rw[hij]
     conv=>whnf
     repeat' (first|refine gC (gD (cJ ?_))|refine ak.nrm ?_)<;>conv=>whnf
     all_goals rfl
   .rw [decide_eq_false h6];refine Fun.of (dK (by simp) ?_) rfl rfl
    conv=>whnf
    repeat' (first|refine gF (ag.fn (hn) ?_)|(refine gC ?_;first|refine cY ?_|refine .not ?_|(refine gD ?_;first|refine cI ?_|refine cJ ?_))|refine ak.nrm ?_)<;>conv=>whnf
    all_goals rfl
  .rw [decide_eq_false h0];refine Fun.of (dK (by simp) ?_) rfl rfl
   conv=>whnf
   repeat' (first|refine gF (ag.fn (hn) ?_)|(refine gC ?_;first|refine cY ?_|refine .not ?_|refine gD (cI ?_))|refine ak.nrm ?_)<;>conv=>whnf
   all_goals rfl
theorem F6{x:Ac}(hl:x.positions.length<=10000000):Fun Tryz.prog 42 [x.av] (.bool (!x.right)):=by
 have h:=BZ hl;refine Fun.of (su (by simp) ?_) rfl rfl
 conv=>whnf
 repeat' (first|refine gF (ag.fn (h) ?_)|refine ak.nrm ?_)<;>conv=>whnf
theorem yp{l:List Ac}(hl:l.length<=10000000)(hp:∀a∈l,a.positions.length<=10000000):Fun Tryz.prog 94 [slA Ac.av l,.fn (.func 42) [] []] (.int .i64 (dS (λx=>!x.right) l)):=by
 refine Fun.of (bB (by simp) ?_) rfl rfl
 conv=>whnf
 repeat' refine gL (.map ?_)<;>conv=>whnf
 refine az.count (fb:=true) (l.length) (λst_ j=>st_.bD [(8,.int .i64 j)]) (λj=>∀i x,i<j->l[i]? =some x->(!x.right)=false) ?_ ?_ (λj hj hij=>?_) (λhij=>?_)
 .exact bZ
 .exact bq
 .obtain ⟨y,hy⟩:∃y,l[j]? =some y:=⟨_,zA hj⟩;have h1:=F6 (x:=y) (hp y (zE hy))
  cases hb:(!y.right) with
  |true=>
   rw[hb] at h1
   conv=>whnf
   repeat' (first|refine gF (ag.fn (h1) ?_)|(refine gC ?_;first|refine cY ?_|refine gD (cI ?_))|refine gI (gM (iE ?_))|refine gH (hB ?_)|refine ak.nrm ?_)<;>conv=>whnf
   rw[fa hij hy hb]
  |false=>
   rw[hb] at h1
   conv=>whnf
   repeat' (first|refine gF (ag.fn (h1) ?_)|(refine gC ?_;first|refine cN ?_|refine gD (cI ?_))|refine gW (wI ?_)|refine gI (gM (iE ?_))|refine gH (hB ?_))<;>conv=>whnf
   refine⟨bJ hij hy hb,?_⟩;exact bq
 .conv=>whnf
  repeat' (first|refine gC (gD (cJ ?_))|refine ak.nrm ?_)<;>conv=>whnf
  rw[hU hij]
theorem tt{l:List Ac}(hl:l.length<=10000000)(hp:∀a∈l,a.positions.length<=10000000):Fun Tryz.prog 41 [slA Ac.av l,.fn (.func 42) [] []] (.bool (l.any λx=>!x.right)):=by
 have h:=yp hl hp;rw[<-eH];refine Fun.of (b7 (by simp) ?_) rfl rfl
 conv=>whnf
 repeat' (first|refine gF (ag.fn (h) ?_)|refine ak.nrm ?_)<;>conv=>whnf
theorem Dx{l:List Int}(hl:l.length<=10000000):Fun Tryz.prog 44 [slA aK l] (slA aK l):=by
 refine Fun.of (j7 (by simp) ?_) rfl rfl
 conv=>whnf
 skip;refine GB.no λb hb=>?_
 conv=>whnf
 repeat' (first|(refine gC ?_;refine ae.any (λhc=>?_) (λhc=>?_))|refine gN (nS ?_))<;>conv=>whnf
 .have hl0:l=[]:=by simpa using hb (by assumption)
  subst hl0
  conv=>whnf
  repeat' refine ak.nrm ?_<;>conv=>whnf
  rfl
 .conv=>whnf
  repeat' refine ak.nrm ?_<;>conv=>whnf
  rfl
theorem ua:Fun Tryz.prog 40 [.sl .no []] (.bool true):=by
 refine Fun.of (sn (by simp) ?_) rfl rfl
 conv=>whnf
 repeat' (first|refine gC (gD (cJ ?_))|refine gL (.nil ?_))<;>conv=>whnf
 refine az.count (fb:=true) 0 (λst_ v=>st_) (λv=>True) trivial ?_ (λv hv _=>by omega) (λ_=>?_)
 .exact bq
 .conv=>whnf
  repeat' (first|refine gC (gD (cJ ?_))|refine ak.nrm ?_)<;>conv=>whnf
end Go.CK
