/-
  By an AI agent.
-/
import Derived.Test.YtcjfkbdbcgmomaaGreatDoorQbm
set_option linter.unusedSimpArgs false
set_option linter.unusedVariables false
set_option maxRecDepth 100000
namespace Go.CK
open Go.AM Go.Proofs
mutual
def mT:Tm->Tm->List Bnd->Option (List Bnd)
 |.mk k n s l,t,env=>
  if k=1 then (match aX env n with
   |some x=>if x.cmp t=0 then some env else none
   |none=>some (tC env ⟨n,t⟩))
  else if k=2 then (if t.kind=2/\t.name=s/\t.args.length=l.length then mTs l t.args env else none)
  else if Tm.cmp (.mk k n s l) t=0 then some env else none
def mTs:List Tm->List Tm->List Bnd->Option (List Bnd)
 |[],_,env=>some env
 |p::l,ts,env=>match ts with
  |[]=>some env
  |t::r=>match mT p t env with
   |some e=>mTs l r e
   |none=>none
end
def mPs:List Pr->List Bnd->Option (List Bnd)
 |[],env=>some env
 |x::r,env=>match mT x.p x.t env with
  |some e=>mPs r e
  |none=>none
theorem GL:∀(l m:List Pr) (env:List Bnd),mPs (l++m) env=match mPs l env with
  |some e=>mPs m e
  |none=>none
 |[],m,env=>rfl
 |x::l,m,env=>by
  rw[ze,mPs,mPs]
  cases mT x.p x.t env with
  |none=>rfl
  |some e=>exact GL l m e
theorem vi:∀{l m:List Tm} {env:List Bnd},mPs (er l m) env=mTs l m env
 |[],m,env=>by rw[mTs];cases m<;>rfl
 |a::l,[],env=>rfl
 |a::l,b::m,env=>by
  rw[er,mPs,mTs]
  cases mT a b env with
  |none=>rfl
  |some e=>exact vi
def stM(env:List Bnd)(x:Pr):Option (List Bnd×List Pr):=
 if x.p.kind=1 then (match aX env x.p.num with
  |some y=>if y.cmp x.t=0 then some (env,[]) else none
  |none=>some (tC env ⟨x.p.num,x.t⟩,[]))
 else if x.p.kind=2 then (if x.t.kind=2/\x.t.name=x.p.name/\x.t.args.length=x.p.args.length then some (env,er x.p.args x.t.args) else none)
 else if x.p.cmp x.t=0 then some (env,[]) else none
theorem OM(p t:Tm)(env:List Bnd):mT p t env=if p.kind=1 then (match aX env p.num with
   |some x=>if x.cmp t=0 then some env else none
   |none=>some (tC env ⟨p.num,t⟩))
  else if p.kind=2 then (if t.kind=2/\t.name=p.name/\t.args.length=p.args.length then mTs p.args t.args env else none)
  else if p.cmp t=0 then some env else none:=by
 obtain⟨k,n,s,l⟩:=p;rw[mT];rfl
theorem Ng(env:List Bnd)(x:Pr)(r:List Pr):mPs (x::r) env=match stM env x with
  |some (e,l)=>mPs (l++r) e
  |none=>none:=by
 rw[mPs,stM,OM]
 by_cases d:x.p.kind=1
 .rw [if_pos d,if_pos d]
  cases aX env x.p.num with
  |none=>rfl
  |some y=>
   by_cases a:y.cmp x.t=0
   .simp only[if_pos a];rfl
   .simp only[if_neg a]
 .rw [if_neg d,if_neg d]
  by_cases c:x.p.kind=2
  .rw [if_pos c,if_pos c]
   by_cases b:x.t.kind=2/\x.t.name=x.p.name/\x.t.args.length=x.p.args.length
   .rw [if_pos b,if_pos b];simp only[GL,vi]
   .rw [if_neg b,if_neg b]
  .rw [if_neg c,if_neg c]
   by_cases a:x.p.cmp x.t=0
   .simp only[if_pos a];rfl
   .simp only[if_neg a]
theorem x7{b:List Bnd}{v:Int}:(Da b v=-1/\aX b v=none)\/∃(i:Nat) (x:Bnd),b[i]? =some x/\Da b v=i/\aX b v=some x.t:=by
 by_cases h:∃(i:Nat) (x:Bnd),b[i]? =some x/\x.v=v/\∀(j:Nat) (y:Bnd),j<i->b[j]? =some y->¬y.v=v
 .obtain ⟨i,x,a,c,e⟩:=h;obtain⟨k,g⟩:=GS a c e;exact .inr ⟨i,x,a,k,g⟩
 .have d:∀(i:Nat) (x:Bnd),b[i]? =some x->¬x.v=v:=by
   intro i
   induction i using Nat.strongRecOn with
   |ind i ih=>exact λx a c=>h ⟨i,x,a,c,λj y e f=>ih j e y f⟩
  exact .inl (GR d)
theorem JZ{env:List Bnd}{x:Pr}(he:env.length<=1000000)(hp:x.p.args.length<=1000000):∃n l' ok,Fun Tryz.prog 136 [slA Bnd.av env,x.av] (.tup [slA Bnd.av n,slA Pr.av l',.bool ok])/\(∀e l,stM env x=some (e,l)->n=e/\l'=l/\ok=true)/\(stM env x=none->ok=false):=by
 unfold stM
 by_cases k:x.p.kind=1
 .rw [if_pos k];have c:=CM env x.p.num (by omega)
  rcases x7 (b:=env) (v:=x.p.num) with ⟨f,i2⟩|⟨i,y,q,f,i2⟩
  .rw [i2];rw[f] at c;have o:=Dl env ⟨x.p.num,x.t⟩ he;refine⟨tC env ⟨x.p.num,x.t⟩,[],true,?_,λe l h=>by cases h;exact⟨rfl,rfl,rfl⟩,λh=>by cases h⟩
   refine Fun.of (dH (by simp) ?_) rfl rfl
   conv=>whnf
   repeat' (first|(refine gF ?_;first|refine ae.fn (c) ?_|refine ae.fn (o) ?_)|(refine gC ?_;(refine gD ?_;first|refine cI ?_|refine cJ ?_))|refine ag.nrm ?_)<;>conv=>whnf
   all_goals rfl
  .rw [i2];rw[f] at c;have hs:=sF y.t x.t;refine⟨env,[],decide (y.t.cmp x.t=0),?_,λe l h=>?_,λh=>?_⟩
   .refine Fun.of (dH (by simp) ?_) rfl rfl
    conv=>whnf
    repeat' (first|refine gF (ae.fn (c) ?_)|refine gG (aW.fn (hs) ?_)|refine gC (gD (cI ?_))|refine gI (gM (iE ?_))|refine ag.nrm ?_)<;>conv=>whnf
    all_goals rfl
   .simp only at h;split at h
    .rename_i a;cases h;exact⟨rfl,rfl,decide_eq_true a⟩
    .cases h
   .simp only at h;split at h
    .cases h
    .rename_i a;exact decide_eq_false a
 .rw [if_neg k]
  by_cases j:x.p.kind=2
  .rw [if_pos j]
   by_cases d:x.t.kind=2/\x.t.name=x.p.name/\x.t.args.length=x.p.args.length
   .rw [if_pos d];obtain⟨g1,g2,g3⟩:=d;have g:=xK (l:=x.p.args) (m:=x.t.args) g3.symm hp;refine⟨env,er x.p.args x.t.args,true,?_,λe l h=>by cases h;exact⟨rfl,rfl,rfl⟩,λh=>by cases h⟩
    refine Fun.of (dH (by simp) ?_) rfl rfl
    conv=>whnf
    repeat' (first|refine gF (ae.fn (g) ?_)|(refine gC ?_;first|refine .not ?_|(refine gD ?_;first|refine cI ?_|refine cJ ?_))|refine gL (.map ?_)|refine ag.nrm ?_)<;>conv=>whnf
    all_goals rfl
   .rw [if_neg d];refine⟨[],[],false,?_,(λe l h=>by cases h),λh=>rfl⟩
    refine Fun.of (dH (by simp) ?_) rfl rfl
    conv=>whnf
    repeat' (first|(refine gC ?_;first|refine cY ?_|refine .not ?_|(refine gD ?_;first|refine cI ?_|refine cJ ?_)|refine ak.dec (λa=>?_) (λa=>?_))|refine gL (.map ?_))<;>conv=>whnf
    all_goals first|(exfalso;exact d ⟨by assumption,by assumption,by omega⟩)|(refine ag.nrm ?_;(conv=>whnf);rfl)
  .rw [if_neg j];have hs:=sF x.p x.t;refine⟨env,[],decide (x.p.cmp x.t=0),?_,λe l h=>?_,λh=>?_⟩
   .refine Fun.of (dH (by simp) ?_) rfl rfl
    conv=>whnf
    repeat' (first|refine gF (ae.fn (hs) ?_)|refine gC (gD (cJ ?_))|refine ag.nrm ?_)<;>conv=>whnf
    all_goals rfl
   .split at h
    .rename_i a;cases h;exact⟨rfl,rfl,decide_eq_true a⟩
    .cases h
   .split at h
    .cases h
    .rename_i a;exact decide_eq_false a
def prN:List Pr->Nat
 |[]=>0
 |x::r=>x.p.nodes+prN r
theorem AF:∀(l m:List Pr),prN (l++m)=prN l+prN m
 |[],m=>by simp[prN]
 |x::l,m=>by rw[ze,prN,prN,AF l m];omega
theorem uG:∀{l m:List Tm},prN (er l m)<=Tm.aA l
 |[],_=>by simp[er,prN]
 |_::_,[]=>by simp[er,prN]
 |a::l,b::m=>by
  have:=uG (l:=l) (m:=m);simp only[er,prN,Tm.aA];omega
theorem AE:∀(l:List Pr),l.length<=prN l
 |[]=>zG _
 |x::r=>by
  have:=AE r;have:=x.p.lx;rw[prN,zX];omega
theorem Js{env:List Bnd}{x:Pr}{e:List Bnd}{l:List Pr}(h:stM env x=some (e,l)):prN l+1<=x.p.nodes/\e.length+prN l<=env.length+x.p.nodes:=by
 have hp:=x.p.lx;unfold stM at h
 by_cases b:x.p.kind=1
 .rw [if_pos b] at h
  cases hk:aX env x.p.num with
  |none=>
   rw[hk] at h;cases h;have:(tC env ⟨x.p.num,x.t⟩).length=env.length+1:=bZ _ _ _
   simp only[prN];omega
  |some y=>
   rw[hk] at h;simp only at h;split at h
   .cases h;simp only[prN];omega
   .cases h
 .rw [if_neg b] at h
  by_cases a:x.p.kind=2
  .rw [if_pos a] at h;split at h
   .cases h;have f:=uG (l:=x.p.args) (m:=x.t.args);have d:x.p.nodes=Tm.aA x.p.args+1:=by cases c:x.p;simp[Tm.nodes,Tm.args]
    omega
   .cases h
  .rw [if_neg a] at h;split at h
   .cases h;simp only[prN];omega
   .cases h
def qy(r:Option (List Bnd)):AV:=match r with
 |some e=>.tup [slA Bnd.av e,.bool true]
 |none=>.tup [.sl .no [],.bool false]
theorem Me{env:List Bnd}{todo:List Pr}(u:env.length+prN todo<=1000000):Fun Tryz.prog 76 [slA Bnd.av env,slA Pr.av todo] (qy (mPs todo env)):=by
 refine Fun.of (AZ (by simp) ?_) rfl (by unfold qy;split<;>rfl)
 conv=>whnf
 skip;refine ax.by (fb:=true) (λ_ (q:List Bnd×List Pr)=>⟨[(0,slA Bnd.av q.1),(1,slA Pr.av q.2)],[],0⟩) (λq=>q.1.length+prN q.2<=1000000/\mPs q.2 q.1=mPs todo env) (λq=>prN q.2) (env,todo) ⟨u,rfl⟩ ?_ ?_
 .exact aN
 .rintro ⟨e,l⟩ ⟨k,f⟩;dsimp only at k f|-
  by_cases j:l.length=0
  .obtain rfl:l=[]:=zL j;rw[mPs] at f;rw[<-f,qy];generalize d:([]:List Pr)=l at*
   conv=>whnf
   repeat' (first|refine gC (gD (cJ ?_))|refine gL (.map ?_)|refine ag.nrm ?_)<;>conv=>whnf
   all_goals rfl
  .obtain ⟨x,r,d⟩:∃x r,l=x::r:=by
    cases l with
    |nil=>exact absurd rfl j
    |cons x r=>exact⟨x,r,rfl⟩
   have m:l[(0:Int).toNat]? =some x:=by rw[d];rfl
   have h:List.drop (1:Int).toNat (List.take (((l.map Pr.av).length:Nat):Int).toNat (l.map Pr.av))=r.map Pr.av:=by
    rw[d];simp only[zF,zP,Zn,zX,yD];rw[zl (by simp)]
    rfl
   have s:prN l=x.p.nodes+prN r:=by rw[d,prN]
   have g:x.p.args.length<=1000000:=by
    have B:=cG x.p.args;have A:x.p.nodes=Tm.aA x.p.args+1:=by cases z:x.p;simp[Tm.nodes,Tm.args]
    omega
   obtain⟨w,l',ok,hs,s1,s2⟩:=JZ (env:=e) (x:=x) (by omega) g
   have c:=Ng e x r;rw[<-d,f] at c
   cases hm:stM e x with
   |none=>
    rw[hm] at c;rw[s2 hm] at hs;rw[c,qy]
    conv=>whnf
    repeat' (first|refine gF (ae.fn (hs) ?_)|(refine gC ?_;first|refine cN ?_|refine .not ?_|refine gD (cI ?_))|refine gL (.map ?_)|refine gI (gM (iE ?_))|refine ag.nrm ?_)<;>conv=>whnf
    all_goals rfl
   |some y=>
    obtain⟨v,l2⟩:=y;obtain⟨rfl,rfl,rfl⟩:=s1 v l2 hm;rw[hm] at c;have n:=Js hm;have o:=AE r;have t:=AE l';have i:=Iy (a:=l') (b:=r) (by omega) (by omega)
    conv=>whnf
    repeat' (first|refine gF (ae.fn (hs) ?_)|(refine gC ?_;first|refine cY ?_|refine .not ?_|refine gD (cI ?_))|refine gL (.map ?_)|refine gN (nS ?_)|refine gI (gM (iE ?_)))<;>conv=>whnf
    rw[h]
    conv=>whnf
    repeat' refine gF (ae.fn (i) ?_)<;>conv=>whnf
    refine⟨(w,l'++r),⟨⟨?_,?_⟩,?_⟩,?_⟩
    .dsimp only;rw[AF];omega
    .exact c.symm
    .dsimp only;rw[AF];omega
    .exact aN
end Go.CK
namespace Go.CK
open Go.AM Go.Proofs
def mAt(env:List Bnd)(p a:At):Option (List Bnd):=if p.name=a.name/\p.args.length=a.args.length then mTs p.args a.args env else none
theorem CO{env:List Bnd}{p a:At}(k:env.length+Tm.aA p.args<=1000000):Fun Tryz.prog 28 [slA Bnd.av env,p.av,a.av] (qy (mAt env p a)):=by
 have d:=FN (l:=env) (by omega)
 have j:=cG p.args
 by_cases g:p.name=a.name
 .by_cases f:p.args.length=a.args.length
  .have c:=xK (l:=p.args) (m:=a.args) f (by omega)
   have i:=uG (l:=p.args) (m:=a.args);have b:=Me (env:=env) (todo:=er p.args a.args) (by omega)
   have e:mAt env p a=mPs (er p.args a.args) env:=by rw[mAt,if_pos ⟨g,f⟩,vi]
   rw[e]
   cases hr:mPs (er p.args a.args) env with
   |none=>
    rw[hr,qy] at b;rw[qy];refine Fun.of (fp (by simp) ?_) rfl rfl
    conv=>whnf
    repeat' (first|(refine gG ?_;first|refine aW.fn (d) ?_|refine aW.fn (c) ?_|refine aW.fn (b) ?_)|(refine gC ?_;first|refine .not ?_|refine gD (cI ?_))|refine gL (.map ?_)|refine ag.nrm ?_)<;>conv=>whnf
    all_goals rfl
   |some n=>
    rw[hr,qy] at b;rw[qy];refine Fun.of (fp (by simp) ?_) rfl rfl
    conv=>whnf
    repeat' (first|(refine gG ?_;first|refine aW.fn (d) ?_|refine aW.fn (c) ?_|refine aW.fn (b) ?_)|(refine gC ?_;first|refine .not ?_|refine gD (cI ?_))|refine gL (.map ?_)|refine ag.nrm ?_)<;>conv=>whnf
    all_goals rfl
  .have e:mAt env p a=none:=by rw[mAt,if_neg λh=>f h.2]
   rw[e,qy];refine Fun.of (fp (by simp) ?_) rfl rfl
   conv=>whnf
   repeat' (first|(refine gC ?_;first|refine .not ?_|(refine gD ?_;first|refine cI ?_|refine cJ ?_))|refine gL (.map ?_)|refine ag.nrm ?_)<;>conv=>whnf
   all_goals rfl
 .have e:mAt env p a=none:=by rw[mAt,if_neg λh=>g h.1]
  rw[e,qy];refine Fun.of (fp (by simp) ?_) rfl rfl
  conv=>whnf
  repeat' (first|(refine gC ?_;first|refine cY ?_|refine .not ?_|refine gD (cJ ?_))|refine ag.nrm ?_)<;>conv=>whnf
  all_goals rfl
mutual
def inT(env:List Bnd):Tm->Tm
 |.mk k n s l=>if k=1 then (match aX env n with
   |some x=>x
   |none=>.mk 1 n ⟨#[]⟩ [])
  else if k=0 then .mk 0 n ⟨#[]⟩ [] else if k=2 then .mk 2 0 s (nO env l) else .mk k n s l
def nO(env:List Bnd):List Tm->List Tm
 |[]=>[]
 |t::l=>inT env t::nO env l
end
theorem vw(env:List Bnd):∀l:List Tm,nO env l=l.map (inT env)
 |[]=>rfl
 |t::l=>by rw[nO,vw env l];rfl
theorem NT(env:List Bnd)(t:Tm):inT env t=if t.kind=1 then (match aX env t.num with
   |some x=>x
   |none=>.mk 1 t.num ⟨#[]⟩ [])
  else if t.kind=0 then .mk 0 t.num ⟨#[]⟩ [] else if t.kind=2 then .mk 2 0 t.name (t.args.map (inT env)) else t:=by
 obtain⟨k,n,s,l⟩:=t;rw[inT,vw];rfl
theorem Ej(n:Int):Fun Tryz.prog 80 [.int .i64 n] (Tm.mk 1 n ⟨#[]⟩ []).avw:=by
 refine Fun.of (Cz (by simp) ?_) rfl rfl
 conv=>whnf
 repeat' refine ag.nrm ?_<;>conv=>whnf
 all_goals rfl
theorem Ek(n:Int):Fun Tryz.prog 81 [.int .i64 n] (Tm.mk 0 n ⟨#[]⟩ []).avw:=by
 refine Fun.of (CA (by simp) ?_) rfl rfl
 conv=>whnf
 repeat' refine ag.nrm ?_<;>conv=>whnf
 all_goals rfl
theorem El(s:ByteArray)(l:List Tm)(a:l.length<=1000000):Fun Tryz.prog 82 [.str s,.sl .no (l.map Tm.av)] (Tm.mk 2 0 s l).avw:=by
 refine Fun.of (CB (by simp) ?_) rfl rfl
 conv=>whnf
 repeat' refine ag.nrm ?_<;>conv=>whnf
 all_goals rfl
theorem Ko{env:List Bnd}{l:List Tm}(g:l.length<=1000000)(h:∀x∈l,Fun Tryz.prog 29 [slA Bnd.av env,.int .i64 0,x.avw] (inT env x).avw):Fun Tryz.prog 83 [slA Bnd.av env,.int .i64 0,slA Tm.av l] (slA Tm.av (l.map (inT env))):=by
 refine Fun.of (px (by simp) ?_) rfl rfl
 conv=>whnf
 repeat' refine gL (.map ?_)<;>conv=>whnf
 refine ax.by (fb:=true) (λ_ (j:Nat)=>⟨[(0,slA Bnd.av env),(1,.int .i64 0),(7,.sl (.own 4) (((l.take j).map (inT env)).map Tm.av)),(10,slA Tm.av l),(11,.int .i64 (l.length:Int)),(12,.int .i64 (j:Int))],[],0⟩) (λj=>j<=l.length) (λj=>l.length-j) 0 (zJ _) ?_ ?_
 .rw [ZK,Zb,Zb];exact aN
 .intro j f
  by_cases d:j<l.length
  .obtain ⟨a,e⟩:∃a,l[j]? =some a:=⟨_,zA d⟩;have b:=h a (zE e)
   have c:(((l.take j).map (inT env)).map Tm.av).length+[AV.agg [.int .i64 (inT env a).kind,.int .i64 (inT env a).num,.str (inT env a).name,.sl .no ((inT env a).args.map Tm.av)]].length<=lim:=by
    simp only[zF,zn,zU];unfold lim;omega
   conv=>whnf
   repeat' (first|refine gF (ae.fn (b) ?_)|refine gC (gD (cI ?_))|refine gW (wI ?_)|refine gN (nS ?_)|refine gI (gT (iA ?_)))<;>conv=>whnf
   refine⟨j+1,⟨d,by omega⟩,?_⟩
   rw[ZC,e,yK,zu,zu];simp only[zP,Zb,Tm.pM,Tm.avw];refine al.atC 0 ?_ rfl rfl rfl rfl (by first|rfl|(repeat' (first|rfl|refine ao (row_allI _ _ _) ?_|refine ao (az _ _ _) ?_|refine bLtMp ?_|refine aE ?_|refine bLtCells rfl ?_)))
   conv=>whnf
   refine And.intro ?_ ?_<;>conv=>whnf
   all_goals repeat' (first|(refine gV ?_;first|refine vE ?_|refine vI ?_)|exact True.intro)<;>conv=>whnf
  .obtain rfl:j=l.length:=by omega
   rw[zl (by omega)]
   conv=>whnf
   repeat' (first|refine gC (gD (cJ ?_))|refine ag.nrm ?_)<;>conv=>whnf
   all_goals rfl
theorem Mp(env:List Bnd)(he:env.length<=1000000)(t:Tm):t.nodes<=1000000->t.io->Fun Tryz.prog 29 [slA Bnd.av env,.int .i64 0,t.avw] (inT env t).avw:=by
 induction t using Tm.bA with
 |h k n s l ih=>
 intro w a;have q:Tm.aA l<=1000000:=by rw[Tm.nodes] at w;omega
 have g:dO (Tm.mk k n s l).num:=a.2.1;have f:Tm.ios (Tm.mk k n s l).args:=a.2.2;generalize u:Tm.mk k n s l=t;have c:t.args=l:=by subst u;rfl
 rw[u] at g f
 replace ih:∀x∈t.args,Fun Tryz.prog 29 [slA Bnd.av env,.int .i64 0,x.avw] (inT env x).avw:=by
  intro x j;have o:=Tm.hO.1 f x j;rw[c] at j;exact ih x j (by have:=fc j;omega) o
 have e:t.args.length<=1000000:=by rw[c];have:=cG l;omega
 clear u c w q a;rw[NT];refine Fun.of (qm (by simp) ?_) rfl rfl
 by_cases o:t.kind=1
 .rw [if_pos o];have m:=CM env t.num (by omega)
  rcases x7 (b:=env) (v:=t.num) with ⟨p,i2⟩|⟨i,y,C,p,i2⟩
  .rw [i2];rw[p] at m;have d:=Ej t.num;have r:t.num+0=t.num:=Int.add_zero _;unfold dO at g
   conv=>whnf
   repeat' (first|refine gF (ae.fn (m) ?_)|(refine gC ?_;first|refine cY ?_|refine cN ?_|refine .not ?_|(refine gD ?_;first|refine cI ?_|refine cJ ?_))|refine gW (wI ?_)|fail)<;>conv=>whnf
   rw[r]
   conv=>whnf
   repeat' (first|refine gF (ae.fn (d) ?_)|refine ag.nrm ?_)<;>conv=>whnf
   all_goals rfl
  .rw [i2];rw[p] at m
   conv=>whnf
   repeat' (first|refine gF (ae.fn (m) ?_)|refine gC (gD (cI ?_))|refine gI (gM (iE ?_))|refine ag.nrm ?_)<;>conv=>whnf
   all_goals rfl
 .rw [if_neg o]
  by_cases A:t.kind=0
  .rw [if_pos A];have d:=Ek t.num
   conv=>whnf
   repeat' (first|refine gF (ae.fn (d) ?_)|(refine gC ?_;(refine gD ?_;first|refine cI ?_|refine cJ ?_))|refine ag.nrm ?_)<;>conv=>whnf
   all_goals rfl
  .rw [if_neg A]
   by_cases z:t.kind=2
   .rw [if_pos z];have B:=Ko e ih;have d:=El t.name (t.args.map (inT env)) (by rw[zF];exact e)
    conv=>whnf
    repeat' (first|(refine gG ?_;first|refine aW.fn (B) ?_|refine aW.fn (d) ?_)|(refine gC ?_;(refine gD ?_;first|refine cI ?_|refine cJ ?_))|refine ag.nrm ?_)<;>conv=>whnf
    all_goals rfl
   .rw [if_neg z]
    conv=>whnf
    repeat' (first|refine gC (gD (cJ ?_))|refine ag.nrm ?_)<;>conv=>whnf
    all_goals rfl
end Go.CK
namespace Go.CK
open Go.AM Go.Proofs
def lK(a b:List Bnd):Prop:=∀v x,aX a v=some x->aX b v=some x
theorem lK.refl(a:List Bnd):lK a a:=λ_ _ h=>h
theorem lK.trans{a b c:List Bnd}(h:lK a b)(g:lK b c):lK a c:=λv x e=>g v x (h v x e)
theorem oo:∀(a b:List Bnd) (v:Int),aX (a++b) v=match aX a v with
  |some x=>some x
  |none=>aX b v
 |[],b,v=>rfl
 |y::a,b,v=>by
  rw[ze,aX,aX];split
  .rfl
  .exact oo a b v
theorem HZ{b:List Bnd}{y:Bnd}(i:Nat)(h:aX b y.v=none)(w:Int):aX (jq b i y) w=if y.v=w then some y.t else aX b w:=by
 have a:aX (b.take i++b.drop i) y.v=none:=by rw[List.take_append_drop];exact h
 rw[oo] at a;have e:aX b w=aX (b.take i++b.drop i) w:=by rw[List.take_append_drop]
 rw[jq,oo,e,oo,aX]
 by_cases hw:y.v=w
 .subst hw;rw[if_pos rfl,if_pos rfl]
  cases c:aX (b.take i) y.v with
  |none=>rfl
  |some z=>rw[c] at a;cases a
 .rw [if_neg hw,if_neg hw]
theorem yc{b:List Bnd}{v:Int}{t:Tm}(h:aX b v=none)(w:Int):aX (tC b ⟨v,t⟩) w=if v=w then some t else aX b w:=HZ _ h w
theorem KR{b:List Bnd}{v:Int}{t:Tm}(h:aX b v=none):lK b (tC b ⟨v,t⟩):=λw x hw=>by
 rw[yc h];split
 .rename_i e;subst e;rw[h] at hw;cases hw
 .exact hw
def BH(e:List Bnd)(v:Int):Prop:=∃x,aX e v=some x
theorem BH.mono{a b:List Bnd}(h:lK a b){v:Int}:BH a v->BH b v:=λ⟨x,c⟩=>⟨x,h v x c⟩
theorem NM(p:Tm):∀(t:Tm) (env e:List Bnd),mT p t env=some e->lK env e/\(∀v∈p.vs,BH e v)/\∀d,lK e d->(inT d p).cmp t=0:=by
 induction p using Tm.bA with
 |h k n s l ih=>
 intro t env e h
 have q:∀(l':List Tm),(∀x∈l',x∈l)->∀(ts:List Tm) (env e:List Bnd),mTs l' ts env=some e->l'.length=ts.length->lK env e/\(∀v∈Tm.vss l',BH e v)/\∀d,lK e d->Tm.eI (nO d l') ts=0:=λl'=>by
  induction l' with
  |nil=>
   intro _ ts env e h m
   cases ts with
   |nil=>
    rw[mTs] at h;cases h
    exact⟨lK.refl _,(λv a=>by cases a),λd _=>by simp[nO,Tm.oB]⟩
   |cons b ts=>simp at m
  |cons p r o=>
   intro hm ts env e h m
   cases ts with
   |nil=>simp at m
   |cons t ts=>
    rw[mTs] at h
    cases g:mT p t env with
    |none=>rw[g] at h;cases h
    |some A=>
     rw[g] at h;obtain⟨B,a2,a3⟩:=ih p (hm p (by simp)) t env A g
     obtain⟨j,w,u⟩:=o (λx f=>hm x (by simp[f])) ts A e h (by simpa using m)
     refine⟨B.trans j,λv a=>?_,λd he=>?_⟩
     .rw [Tm.vss] at a;rcases zY.1 a with a|a
      .exact (a2 v a).mono j
      .exact w v a
     .rw [nO,Tm.eI,a3 d (j.trans he),uN];exact u d he
 rw[mT] at h
 by_cases g:k=1
 .rw [if_pos g] at h;subst g
  cases f:aX env n with
  |some x=>
   rw[f] at h;simp only at h;split at h
   .rename_i c;cases h;refine⟨lK.refl _,λv a=>?_,λd he=>?_⟩
    .simp only[Tm.vs,if_true,zp] at a;exact⟨x,by rw[a];exact f⟩
    .rw [inT,if_pos rfl,he n x f];exact c
   .cases h
  |none=>
   rw[f] at h;cases h;have y:aX (tC env ⟨n,t⟩) n=some t:=by rw[yc f,if_pos rfl]
   refine⟨KR f,λv a=>?_,λd he=>?_⟩
   .simp only[Tm.vs,if_true,zp] at a;exact⟨t,by rw[a];exact y⟩
   .rw [inT,if_pos rfl,he n t y];exact Tm.DA t
 .rw [if_neg g] at h
  by_cases i:k=2
  .rw [if_pos i] at h;subst i;split at h
   .rename_i c;obtain⟨g1,g2,g3⟩:=c;obtain⟨j,w,u⟩:=q l (λx f=>f) t.args env e h g3.symm;refine⟨j,λv a=>w v (by simpa[Tm.vs] using a),λd he=>?_⟩
    rw[inT,if_neg (by decide),if_neg (by decide),if_pos rfl,N7]
    refine .inr (.inr (.inl ⟨rfl,g1,?_,g2.symm,u d he⟩));show (nO d l).length=_;rw[vw,zF];exact g3.symm
   .cases h
  .rw [if_neg i] at h;split at h
   .rename_i c;cases h;refine⟨lK.refl _,λv a=>?_,λd he=>?_⟩
    .simp only[Tm.vs,if_neg g,if_neg i] at a;cases a
    .rw [inT,if_neg g,if_neg i]
     by_cases z:k=0
     .subst z;rw[if_pos rfl];rw[N7] at c|-;simp only[Tm.kind,Tm.num] at c|-;rcases c with c|c|c|c
      .exact absurd c.1 (by decide)
      .exact .inr (.inl c)
      .exact absurd c.1 (by decide)
      .exact absurd rfl c.1
     .rw [if_neg z];exact c
   .cases h
theorem A7:∀{l ts:List Tm} {env e:List Bnd},mTs l ts env=some e->l.length=ts.length->lK env e/\(∀v∈Tm.vss l,BH e v)/\∀c,lK e c->Tm.eI (l.map (inT c)) ts=0
 |[],ts,env,e,h,d=>by
  cases ts with
  |nil=>
   rw[mTs] at h;cases h
   exact⟨lK.refl _,(λv a=>by cases a),λc _=>by simp[Tm.oB]⟩
  |cons b ts=>simp at d
 |p::r,ts,env,e,h,d=>by
  cases ts with
  |nil=>simp at d
  |cons t ts=>
   rw[mTs] at h
   cases f:mT p t env with
   |none=>rw[f] at h;cases h
   |some i=>
    rw[f] at h;obtain⟨m,a2,a3⟩:=NM p t env i f;obtain⟨g,k,j⟩:=A7 (l:=r) (ts:=ts) (env:=i) (e:=e) h (by simpa using d)
    refine⟨m.trans g,λv a=>?_,λc he=>?_⟩
    .rw [Tm.vss] at a;rcases zY.1 a with a|a
     .exact (a2 v a).mono g
     .exact k v a
    .rw [zP,Tm.eI,a3 c (g.trans he),uN];exact j c he
theorem Ku{a b:List Bnd}(i:lK a b)(p:Tm):(∀v∈p.vs,BH a v)->inT a p=inT b p:=by
 induction p using Tm.bA with
 |h k n s l ih=>
 intro d
 have g:∀(r:List Tm),(∀x∈r,x∈l)->(∀v∈Tm.vss r,BH a v)->nO a r=nO b r:=λr=>by
  induction r with
  |nil=>intro _ _;rfl
  |cons t r f=>
   intro hm d;rw[Tm.vss] at d;rw[nO,nO,ih t (hm t (by simp)) λv h=>d v (ZB _ h),f (λx c=>hm x (by simp[c])) λv h=>d v (ZU _ h)]
 rw[inT,inT]
 by_cases e:k=1
 .rw [if_pos e,if_pos e];obtain⟨x,c⟩:=d n (by simp[Tm.vs,e])
  rw[c,i n x c]
 .rw [if_neg e,if_neg e]
  by_cases j:k=2
  .subst j;rw[g l (λx c=>c) λv h=>d v (by simpa[Tm.vs] using h)]
  .rw [if_neg j,if_neg j]
theorem FE{l:List Int}{v:Int}(h:v∈l):v∈aV l:=rS.2 (.inr h)
theorem Dj{l:List Int}{v:Int}(h:v∈aV l):v∈l:=by
 rcases rS.1 h with h|h
 .cases h
 .exact h
theorem Lk{known:List Int}{t:Tm}(h:yv known t=true):∀v∈t.vs,v∈known:=λv a=>by
 have:=zS.1 h v (FE a);simpa using this
theorem qi{p:Tm->Bool}{l:List Tm}:∀{j:Nat} {x:Int},x∈bz p l j->∃t,l[x.toNat]? =some t/\p t=true
 |0,x,h=>by cases h
 |j+1,x,h=>by
  rw[bz] at h;rcases zY.1 h with h|h
  .exact qi h
  .split at h
   .rename_i t a;split at h
    .rename_i hp;simp only[zp] at h;subst h;exact⟨t,by simpa using a,hp⟩
    .cases h
   .cases h
theorem vo{a:List Tm}:∀{l:List Int},(∀x∈l,0<=x/\x<a.length)->fK a l=l.map λq=>a.getD q.toNat tm0
 |[],_=>rfl
 |i::r,h=>by
  obtain⟨e,d⟩:=h i (by simp)
  have b:i.toNat<a.length:=by omega
  rw[fK,if_pos ⟨e,d⟩,vo λx c=>h x (by simp[c]),zA b,zP,List.getD_eq_getElem?_getD,zA b]
  rfl
theorem Ih{r:Rl}{o n:Int}{g0 g a:At}{env C:List Bnd}{acc:List Ac}{its:List It}{m:Nat}{c:Ac}{i:It}
  (G:0<=o) (z:r.ai[o.toNat]? =some g0) (H:0<=n) (B:r.ai[n.toNat]? =some g) (K:acc[m]? =some c) (c1:c.name=g.name) (c2:c.arity=g.args.length) (c3:c.positions=a8 r [o] n)
  (he:mAt [] g0 a=some env) (I:i∈its) (s:mAt env g i.atom=some C):i.id∈sU acc its (m:Int) ((fK g.args (a8 r [o] n)).map (inT env)):=by
 have b:=rU (done:=[o]) H B;rw[mAt] at he s;split at he
 .rename_i E;split at s
  .rename_i f;obtain⟨_,a2,_⟩:=A7 he E.2;obtain⟨M,_,L⟩:=A7 s f.2;have D:=L C (lK.refl _);rw[oA (by rw[zF];exact f.2)] at D
   have J:c.has i.atom.name i.atom.args=true:=by simp[Ac.has,c1,c2,f.1,f.2]
   rw[sU,if_pos (by omega),Zn,K]
   simp only;rw[if_pos (by rw[zF,qE b,c3])]
   refine zk.2 ⟨i,zo.2 ⟨I,?_⟩,rfl⟩;rw[J,za,decide_eq_true_eq,LG];refine((Hr ?_).2 ?_).symm
   .rw [zF,qE b,H6,c3]
   .intro j x y d h;rw[vo b,List.map_map,ZF] at d;rw[keyOf,c3,ZF] at h
    cases u:(a8 r [o] n)[j]? with
    |none=>rw[u] at d;simp at d
    |some q=>
     rw[u] at d h;simp only[zM,zN,Function.comp] at d h;have e:=zE u;obtain⟨z0,N⟩:=b q e;have k:q.toNat<g.args.length:=by omega
     have l2:q.toNat<i.atom.args.length:=by rw[<-f.2];exact k
     rw[List.getD_eq_getElem?_getD,zA k,ZS] at d;rw[List.getD_eq_getElem?_getD,zA l2,ZS] at h
     have hb:∀v∈(g.args[q.toNat]).vs,BH env v:=λv F=>by
      rw[a8,if_neg (by omega),B] at e
      obtain⟨t,A,w⟩:=qi (p:=yv (kvs r.ai [o])) (l:=g.args) (j:=g.args.length) e;rw[zA k] at A;cases A;have hk:=Lk w v F;rw[GN G z] at hk;exact a2 v (Dj hk)
     rw[<-d,<-h,Ku M _ hb];exact D q.toNat _ _ (by rw[ZF,zA k];rfl) (zA l2)
  .cases s
 .cases he
theorem vf{s:ByteArray}(h:cZ s=true):s.size<=40:=by
 simp only[cZ,mF,zD,decide_eq_true_eq] at h;exact h.1.1.2
theorem EM{s:ByteArray}(h:eu s=true):s.size<=40:=by
 by_cases a:s.size=1
 .omega
 .rw [GF a] at h;cases h
theorem Mx(t:Tm):t.form=true->t.io/\t.nmo/\t.nodes<=t.sz:=by
 induction t using Tm.bA with
 |h k n s l ih=>
 intro h
 have e:∀(r:List Tm),(∀x∈r,x∈l)->Tm.dL r=true->Tm.ios r/\Tm.nD r/\Tm.aA r<=Tm.szs r:=λr=>by
  induction r with
  |nil=>intro _ _;exact⟨trivial,trivial,zG _⟩
  |cons t r c=>
   intro hm f;rw[Tm.dL,zD] at f;obtain⟨q,a2,a3⟩:=ih t (hm t (by simp)) f.1
   obtain⟨j,i,p⟩:=c (λx d=>hm x (by simp[d])) f.2
   rw[Tm.aA,Tm.szs];exact⟨⟨q,j⟩,⟨a2,i⟩,by omega⟩
 rw[Tm.form] at h
 by_cases g:k=0
 .rw [if_pos g,decide_eq_true_eq] at h;obtain⟨b,a,o,m⟩:=h;obtain rfl:=zL m;subst g o;exact⟨⟨⟨by decide,by decide⟩,⟨by omega,by omega⟩,trivial⟩,⟨by decide,trivial⟩,by simp[Tm.nodes,Tm.sz,Tm.aA]⟩
 .rw [if_neg g] at h
  by_cases b:k=1
  .rw [if_pos b,decide_eq_true_eq] at h;obtain⟨g1,g2,g3,g4⟩:=h;obtain rfl:=zL g4;subst b g3;exact⟨⟨⟨by decide,by decide⟩,⟨by omega,by omega⟩,trivial⟩,⟨by decide,trivial⟩,by simp[Tm.nodes,Tm.sz,Tm.aA]⟩
  .rw [if_neg b] at h
   by_cases a:k=2
   .rw [if_pos a] at h;simp only[zD,ZM,decide_eq_true_eq] at h;obtain⟨⟨g1,g2⟩,g3,g4⟩:=h;obtain⟨j,i,p⟩:=e l (λx d=>d) g4;subst a g1
    have hs:s.size<=40:=by
     rcases g3 with g3|g3
     .exact vf g3
     .exact EM g3.1
    exact⟨⟨⟨by decide,by decide⟩,⟨by decide,by decide⟩,j⟩,⟨by omega,i⟩,by rw[Tm.nodes,Tm.sz,if_pos rfl];omega⟩
   .rw [if_neg a] at h;cases h
theorem ni{x:At}(h:x.right=true):Tm.ios x.args/\Tm.nD x.args/\Tm.aA x.args<=200/\x.args.length<=6:=by
 simp only[At.right,vLB,zD,decide_eq_true_eq] at h;obtain⟨_,e,a,hs,_⟩:=h
 have d:∀(r:List Tm),Tm.dL r=true->Tm.ios r/\Tm.nD r/\Tm.aA r<=Tm.szs r:=λr=>by
  induction r with
  |nil=>intro _;exact⟨trivial,trivial,zG _⟩
  |cons t r b=>
   intro a;rw[Tm.dL,zD] at a;obtain⟨c,a2,a3⟩:=Mx t a.1;obtain⟨g,f,i⟩:=b a.2;rw[Tm.aA,Tm.szs];exact⟨⟨c,g⟩,⟨a2,f⟩,by omega⟩
 obtain⟨c,a2,a3⟩:=d _ a;exact⟨c,a2,by omega,e⟩
theorem EC{l:List It}(h:cC l=true):∀i∈l,SzI 200 i/\i.atom.args.length<=6:=λi a=>by
 simp only[cC,zD] at h;obtain⟨b,a2,a3,a4⟩:=ni ((tG h.2).2 i a).2;exact⟨⟨b,a2,a3⟩,a4⟩
theorem Ik{c:Ac}(h:c.right=true)(hp:c.positions.length<=6):Il c=true:=by
 simp only[Ac.right,zD] at h;have:=vf h.1;simp only[Il,zD,decide_eq_true_eq];omega
def SzE(b:List Bnd):Prop:=∀x∈b,x.t.nodes<=200/\x.t.nmo/\x.t.io
theorem Kp{α:Type}{l:List α}{i:Nat}{x y:α}(h:y∈jq l i x):y=x\/y∈l:=by
 rw[jq] at h;rcases zY.1 h with h|h
 .exact .inr (List.mem_of_mem_take h)
 .rcases zI.1 h with h|h
  .exact .inl h
  .exact .inr (List.mem_of_mem_drop h)
theorem OL(p:Tm):∀(t:Tm) (env e:List Bnd),mT p t env=some e->SzE env->t.nodes<=200->t.nmo->t.io->SzE e/\e.length<=env.length+p.nodes:=by
 induction p using Tm.bA with
 |h k n s l ih=>
 intro t env e h d g a b
 have j:∀(l':List Tm),(∀x∈l',x∈l)->∀(ts:List Tm) (env e:List Bnd),mTs l' ts env=some e->SzE env->Tm.aA ts<=200->Tm.nD ts->Tm.ios ts->SzE e/\e.length<=env.length+Tm.aA l':=λl'=>by
  induction l' with
  |nil=>
   intro _ ts env e h d _ _ _;rw[mTs] at h;cases h
   exact⟨d,by omega⟩
  |cons p r i=>
   intro hm ts env e h d g a b
   cases ts with
   |nil=>
    rw[mTs] at h;cases h
    exact⟨d,by omega⟩
   |cons t ts=>
    rw[mTs] at h;rw[Tm.aA] at g
    cases f:mT p t env with
    |none=>rw[f] at h;cases h
    |some q=>
     rw[f] at h;obtain⟨v,a2⟩:=ih p (hm p (by simp)) t env q f d (by omega) a.1 b.1
     obtain⟨m,u⟩:=i (λx c=>hm x (by simp[c])) ts q e h v (by omega) a.2 b.2
     exact⟨m,by rw[Tm.aA];omega⟩
 have hp:=Tm.lx (.mk k n s l);rw[mT] at h
 by_cases f:k=1
 .rw [if_pos f] at h
  cases c:aX env n with
  |some x=>
   rw[c] at h;simp only at h;split at h
   .cases h;exact⟨d,by omega⟩
   .cases h
  |none=>
   rw[c] at h;cases h;refine⟨λx c=>?_,?_⟩
   .rcases Kp c with rfl|c
    .exact ⟨g,a,b⟩
    .exact d x c
   .rw [tC,bZ];omega
 .rw [if_neg f] at h
  by_cases o:k=2
  .rw [if_pos o] at h;split at h
   .obtain ⟨k',n',w,l2⟩:=t;simp only[Tm.args] at h;rw[Tm.nodes] at g;obtain⟨m,u⟩:=j l (λx c=>c) l2 env e h d (by omega) a.2 b.2.2
    exact⟨m,by rw[Tm.nodes];omega⟩
   .cases h
  .rw [if_neg o] at h;split at h
   .cases h;exact⟨d,by omega⟩
   .cases h
theorem J5:∀{l ts:List Tm} {env e:List Bnd},mTs l ts env=some e->SzE env->Tm.aA ts<=200->Tm.nD ts->Tm.ios ts->SzE e/\e.length<=env.length+Tm.aA l
 |[],ts,env,e,h,c,_,_,_=>by
  rw[mTs] at h;cases h
  exact⟨c,by omega⟩
 |p::r,ts,env,e,h,c,f,a,b=>by
  cases ts with
  |nil=>
   rw[mTs] at h;cases h
   exact⟨c,by omega⟩
  |cons t ts=>
   rw[mTs] at h;rw[Tm.aA] at f
   cases d:mT p t env with
   |none=>rw[d] at h;cases h
   |some g=>
    rw[d] at h;obtain⟨j,a2⟩:=OL p t env g d c (by omega) a.1 b.1
    obtain⟨i,k⟩:=J5 (l:=r) (ts:=ts) h j (by omega) a.2 b.2
    exact⟨i,by rw[Tm.aA];omega⟩
theorem NN{p a:At}{e:List Bnd}(h:mAt [] p a=some e)(hp:p.right=true)(b:a.right=true):SzE e/\e.length<=200:=by
 obtain⟨_,_,g,_⟩:=ni hp;obtain⟨f,a2,a3,_⟩:=ni b;rw[mAt] at h;split at h
 .obtain ⟨d,c⟩:=J5 h (λ_ h=>by cases h) a3 a2 f
  rw[ZP] at c;exact⟨d,by omega⟩
 .cases h
theorem Kt{b:List Bnd}(hb:SzE b)(t:Tm):t.nmo->t.io->(inT b t).nodes<=200*t.nodes/\(inT b t).nmo/\(inT b t).io:=by
 induction t using Tm.bA with
 |h k n s l ih=>
  intro c a
  have m:∀(r:List Tm),(∀t∈r,t∈l)->Tm.nD r->Tm.ios r->Tm.aA (nO b r)<=200*Tm.aA r/\Tm.nD (nO b r)/\Tm.ios (nO b r):=λr=>by
   induction r with
   |nil=>intro _ _ _;simp[nO,Tm.aA,Tm.nD,Tm.ios]
   |cons t r f=>
    intro hm e d;obtain⟨u,a2,a3⟩:=ih t (hm t (by simp)) e.1 d.1
    obtain⟨q,p,o⟩:=f (λx j=>hm x (by simp[j])) e.2 d.2
    rw[nO,Tm.aA,Tm.aA,Tm.nD,Tm.ios];exact⟨by omega,⟨a2,p⟩,a3,o⟩
  have hp:=Tm.lx (.mk k n s l);rw[inT]
  by_cases e:k=1
  .rw [if_pos e]
   cases hk:aX b n with
   |none=>exact⟨by simp only[Tm.nodes,Tm.aA] at hp|-;omega,⟨by decide,trivial⟩,⟨by decide,by decide⟩,a.2.1,trivial⟩
   |some x=>
    obtain⟨y,i,rfl⟩:=CS hk;obtain⟨c1,c2,c3⟩:=hb y i;exact⟨by dsimp only;omega,c2,c3⟩
  .rw [if_neg e]
   by_cases g:k=0
   .rw [if_pos g];exact⟨by simp only[Tm.nodes,Tm.aA] at hp|-;omega,⟨by decide,trivial⟩,⟨by decide,by decide⟩,a.2.1,trivial⟩
   .rw [if_neg g]
    by_cases d:k=2
    .rw [if_pos d];obtain⟨c1,c2,c3⟩:=m l (λt h=>h) c.2 a.2.2;simp only[Tm.nodes,Tm.nmo,Tm.io];exact⟨by omega,⟨c.1,c2⟩,⟨by decide,by decide⟩,⟨by decide,by decide⟩,c3⟩
    .rw [if_neg d];exact⟨by omega,c,a⟩
theorem Mj{b:List Bnd}{l:List Tm}(hb:SzE b)(g:l.length<=6)(h:∀t∈l,t.nodes<=200/\t.nmo/\t.io):Tm.ios (l.map (inT b))/\(bP (l.map (inT b))).length<=100000000:=by
 refine⟨Tm.hO.2 λt c=>?_,?_⟩
 .obtain ⟨x,a,rfl⟩:=zk.1 c;obtain⟨_,e,d⟩:=h x a;exact(Kt hb x e d).2.2
 .have f:=pc (l:=l.map (inT b)) (n:=16000000) λt c=>by
   obtain⟨x,a,rfl⟩:=zk.1 c;obtain⟨f,e,d⟩:=h x a;obtain⟨g1,g2,g3⟩:=Kt hb x e d;have:=xp _ g3 g2 (by omega)
   omega
  rw[zF] at f;have:l.length*16000000<=6*16000000:=ZE _ g;omega
theorem JN{p:Pg}{i:Nat}{x:Pl}{j:Nat}{y:At×List Int}(d:(allI p)[i]? =some x)(g:j<x.order.length)(h:cz p x j=some y):
  ∃(m:Nat) (a:Ac),sO p (ei p (allI p)) x j=m/\(ei p (allI p))[m]? =some a/\a.name=y.1.name/\a.arity=y.1.args.length/\a.positions=y.2:=by
 obtain⟨a,k,u⟩:=D9 d g h (n:=(allI p).length) (zB.1 d).1;rw[sO,h]
 have hex:∃m:Nat,(∃b,(ei p (allI p))[m]? =some b/\oM (jj y.1 y.2) b=true)/\∀(i:Nat) (x:Ac),i<m->(ei p (allI p))[i]? =some x->oM (jj y.1 y.2) x=false:=by
  have f:a∈ei p (allI p):=k;generalize ei p (allI p)=l at*;clear k d g h
  induction l with
  |nil=>cases f
  |cons b l ih=>
   cases hb:oM (jj y.1 y.2) b with
   |true=>exact⟨0,⟨b,rfl,hb⟩,λi x s=>by omega⟩
   |false=>
    rcases zI.1 f with rfl|t
    .rw [u] at hb;cases hb
    .obtain ⟨m,q,o⟩:=ih t;refine⟨m+1,by simpa using q,λi x s d=>?_⟩
     cases i with
     |zero=>simp at d;subst d;exact hb
     |succ i=>exact o i x (by omega) (by simpa using d)
 obtain⟨m,⟨b,e,c⟩,r⟩:=hex;refine⟨m,b,fN r e c,e,?_⟩;simp only[oM,wF,jj,zD] at c;exact⟨of_decide_eq_true c.1,of_decide_eq_true c.2.1,of_decide_eq_true c.2.2⟩
theorem HR{p:Pg}(hp:p.chk){x:Pl}(d:x∈allI p):∃(r:Rl) (g0:At),p.rules[x.occ.rule.toNat]? =some r/\0<=x.occ.rule/\0<=x.occ.head/\x.occ.head<r.ai.length/\r.ai[x.occ.head.toNat]? =some g0:=by
 obtain⟨o,b,rfl⟩:=zk.1 d;obtain⟨r,c,g,f,e,h⟩:=uV b
 have he:ofI p (nK p) o=GB r o (iK r (nK p) o.head):=by
  rw[ofI,if_pos b,c]
 rw[he];have a:o.head.toNat<r.ai.length:=by omega
 exact⟨r,r.ai[o.head.toNat],c,g,f,e,zA a⟩
end Go.CK
