/-
  By an AI agent.
-/
import Derived.Test.YtcjfkbdbcgmomaaGreatDoorQax
set_option linter.unusedSimpArgs false
set_option linter.unusedVariables false
namespace Go.AM
open Go.CK Go.RowKit
def ixO:List (Option Nat)->Nat->Nat->Option Nat
 |[],_,_=>none
 |none::l,b,k=>ixO l b (k+1)
 |some i::l,b,k=>match Nat.beq i b with
  |true=>some k
  |false=>ixO l b (k+1)
theorem vr:∀{l:List (Option Nat)} {b k q:Nat},ixO l b k=some q->k<=q/\l[q-k]? =some (some b)
 |none::l,b,k,q,h=>by
  obtain⟨c,a⟩:=vr (l:=l) (k:=k+1) h;refine⟨by omega,?_⟩
  rw[show q-k=(q-(k+1))+1 by omega]
  simpa using a
 |some i::l,b,k,q,h=>by
  simp only[ixO] at h;split at h
  .rename_i hb;cases h;have:=zO hb;subst this;simp
  .obtain ⟨c,a⟩:=vr h;refine⟨by omega,?_⟩
   rw[show q-k=(q-(k+1))+1 by omega]
   simpa using a
def inO(l:List (Option Nat))(b:Nat):Bool:=match ixO l b 0 with
 |some _=>true
 |none=>false
def jK(l:List (Option Nat))(b:Nat):Nat:=match ixO l b 0 with
 |some k=>k
 |none=>0
def kE(f:Nat->Nat)(bs:List Box):List (Option Nat)->List Box
 |[]=>[]
 |none::l=>.dead::kE f bs l
 |some i::l=>rnB f (jG bs i)::kE f bs l
theorem vW(f:Nat->Nat)(bs:List Box):∀(l:List (Option Nat)) (k:Nat),(kE f bs l)[k]? =(l[k]?).map λo=>match o with|some i=>rnB f (jG bs i)|none=>.dead
 |[],k=>by simp[kE]
 |none::l,0=>by simp[kE]
 |some i::l,0=>by simp[kE]
 |none::l,k+1=>by simp[kE,vW f bs l k]
 |some i::l,k+1=>by simp[kE,vW f bs l k]
theorem nX(f:Nat->Nat)(bs:List Box):∀l:List (Option Nat),(kE f bs l).length=l.length
 |[]=>rfl
 |none::l=>by simp[kE,nX f bs l]
 |some i::l=>by simp[kE,nX f bs l]
def rnE(f:Nat->Nat):List (Nat×AV)->List (Nat×AV)
 |[]=>[]
 |(t,x)::e=>(t,x.rn f)::rnE f e
theorem Gv(f:Nat->Nat):∀(e:List (Nat×AV)) (t:Nat),au (rnE f e) t=(au e t).map (AV.rn f)
 |[],t=>rfl
 |(k,x)::e,t=>by
  simp only[rnE,au]
  cases Nat.beq k t with
  |true=>rfl
  |false=>exact Gv f e t
def atE(p:Nat->Bool):List (Nat×AV)->Bool
 |[]=>true
 |(_,x)::e=>x.atp p&&atE p e
theorem Ha{p:Nat->Bool}:∀{e:List (Nat×AV)} {t:Nat} {x:AV},atE p e=true->au e t=some x->x.atp p=true
 |(k,y)::e,t,x,h,a=>by
  simp only[atE,zD] at h;simp only[au] at a;split at a
  .cases a;exact h.1
  .exact Ha h.2 a
 |[],_,_,_,a=>by cases a
def qo:List (Option Nat)->Bool
 |[]=>true
 |none::l=>qo l
 |some i::l=>(match ixO l i 0 with|some _=>false|none=>true)&&qo l
def E4(n:Nat):Nat->List (Option Nat)->Bool
 |_,[]=>true
 |b,none::l=>E4 n (b+1) l
 |b,some i::l=>(Nat.ble n b||Nat.beq i b)&&E4 n (b+1) l
def ltO(N:Nat):List (Option Nat)->Bool
 |[]=>true
 |none::l=>ltO N l
 |some i::l=>Nat.blt i N&&ltO N l
theorem vt:∀{l:List (Option Nat)} {b k:Nat},ixO l b k=none->some b∉l
 |none::l,b,k,h,hm=>by
  rcases zI.1 hm with hm|hm
  .cases hm
  .exact vt (l:=l) h hm
 |some i::l,b,k,h,hm=>by
  simp only[ixO] at h;split at h
  .cases h
  .rename_i hb;rcases zI.1 hm with hm|hm
   .cases hm;simp at hb
   .exact vt h hm
 |[],_,_,_,hm=>by cases hm
theorem l8:∀{l:List (Option Nat)},qo l=true->∀{k k' i:Nat},l[k]? =some (some i)->l[k']? =some (some i)->k=k'
 |none::l,h,0,k',i,a,b=>by simp at a
 |none::l,h,k+1,0,i,a,b=>by simp at b
 |none::l,h,k+1,k'+1,i,a,b=>by
  have:=l8 (l:=l) h (k:=k) (k':=k') (i:=i) (by simpa using a) (by simpa using b)
  rw[this]
 |some j::l,h,k,k',i,a,b=>by
  simp only[qo,zD] at h
  have c:some j∉l:=by
   have:=h.1;split at this
   .cases this
   .rename_i d;exact vt d
  cases k with
  |zero=>
   simp at a;subst a
   cases k' with
   |zero=>rfl
   |succ k'=>exact absurd (zE (by simpa using b)) c
  |succ k=>
   cases k' with
   |zero=>simp at b;subst b;exact absurd (zE (by simpa using a)) c
   |succ k'=>
    have:=l8 h.2 (k:=k) (k':=k') (i:=i) (by simpa using a) (by simpa using b)
    rw[this]
 |[],_,k,k',i,a,_=>by simp at a
theorem rT{n:Nat}:∀{l:List (Option Nat)} {c k i:Nat},E4 n c l=true->l[k]? =some (some i)->c+k<n->i=c+k
 |none::l,c,0,i,h,a,b=>by simp at a
 |none::l,c,k+1,i,h,a,b=>by
  have:=rT (l:=l) (c:=c+1) (k:=k) (i:=i) h (by simpa using a) (by omega)
  omega
 |some j::l,c,k,i,h,a,b=>by
  simp only[E4,zD,ZM] at h
  cases k with
  |zero=>
   simp at a;subst a;rcases h.1 with h|h
   .have:=zr h;omega
   .exact zO h
  |succ k=>
   have:=rT (c:=c+1) (k:=k) (i:=i) h.2 (by simpa using a) (by omega)
   omega
 |[],c,k,i,_,a,_=>by simp at a
theorem qz{N:Nat}:∀{l:List (Option Nat)} {k i:Nat},ltO N l=true->l[k]? =some (some i)->i<N
 |none::l,0,i,h,a=>by simp at a
 |none::l,k+1,i,h,a=>qz (l:=l) (k:=k) h (by simpa using a)
 |some j::l,k,i,h,a=>by
  simp only[ltO,zD] at h
  cases k with
  |zero=>simp at a;subst a;simpa[Nat.blt_eq] using h.1
  |succ k=>exact qz h.2 (by simpa using a)
 |[],k,i,_,a=>by simp at a
def okO(p:Nat->Bool)(bs:List Box):List (Option Nat)->Bool
 |[]=>true
 |none::l=>okO p bs l
 |some i::l=>atB p (jG bs i)&&okO p bs l
theorem qp{p:Nat->Bool}{bs:List Box}:∀{l:List (Option Nat)} {k i:Nat},okO p bs l=true->l[k]? =some (some i)->atB p (jG bs i)=true
 |none::l,0,i,h,a=>by simp at a
 |none::l,k+1,i,h,a=>qp (l:=l) (k:=k) h (by simpa using a)
 |some j::l,k,i,h,a=>by
  simp only[okO,zD] at h
  cases k with
  |zero=>simp at a;subst a;exact h.1
  |succ k=>exact qp h.2 (by simpa using a)
 |[],k,i,_,a=>by simp at a
theorem aD.lay(s:St)(is:List (Option Nat))(h1:qo is=true)(h2:E4 s.lo 0 is=true)(h3:ltO s.bs.length is=true)(h4:Nat.ble s.lo is.length=true)(he:atE (inO is) s.env=true)(hb:okO (inO is) s.bs is=true):
  aD s ⟨rnE (jK is) s.env,kE (jK is) s.bs is,s.lo⟩:=λE G a w hs=>by
 obtain⟨env,bs,lo⟩:=s;simp only at h2 h3 h4 he hb|-;have h4:=zr h4;have hlo:lo=E.nb:=hs.lo;have hcl:(kE (jK is) bs is).length=is.length:=nX _ _ _
 have hcb:∀{k:Nat} {y:Box},(kE (jK is) bs is)[k]? =some y->(is[k]? =some none/\y=.dead)\/∃i x,is[k]? =some (some i)/\bs[i]? =some x/\y=rnB (jK is) x/\atB (inO is) x=true:=λ{k y} A=>by
  rw[vW] at A
  cases hk:is[k]? with
  |none=>rw[hk] at A;cases A
  |some o=>
   rw[hk] at A
   cases o with
   |none=>simp at A;exact .inl ⟨rfl,A.symm⟩
   |some i=>
    have hlt:=qz h3 hk;have L:bs[i]? =some bs[i]:=zA hlt;have D:=qp hb hk;rw[lH L] at D;simp only[zM,zN,lH L] at A;exact .inr ⟨i,_,rfl,L,A.symm,D⟩
 obtain⟨G2,F⟩:∃G2:Gh,G2=⟨G.M,λb=>match is[b]? with|some (some i)=>G.σ i|_=>G.σ b,λp=>match p with|.sl t=>G.cl (.sl t)|.bx b j=>match is[b]? with|some (some i)=>G.cl (.bx i j)|_=>none⟩:=⟨_,rfl⟩;have Z:G2.M=G.M:=by rw[F]
 have K:∀{k i:Nat},is[k]? =some (some i)->G2.σ k=G.σ i:=λ{k i} hk=>by rw[F];simp only[hk]
 have T:∀t,G2.cl (.sl t)=G.cl (.sl t):=λt=>by rw[F]
 have U:∀{k i:Nat} (j:Nat),is[k]? =some (some i)->G2.cl (.bx k j)=G.cl (.bx i j):=λ{k i} j hk=>by rw[F];simp only[hk]
 have r:∀{p:Pl} {B:Nat},G2.cl p=some B->(∃t,p=.sl t/\G.cl (.sl t)=some B)\/∃k i j,p=.bx k j/\is[k]? =some (some i)/\G.cl (.bx i j)=some B:=λ{p B} hp=>by
  cases p with
  |sl t=>exact .inl ⟨t,rfl,by rw[<-T];exact hp⟩
  |bx k j=>
   rw[F] at hp;simp only at hp;split at hp
   .rename_i i hk;exact .inr ⟨k,i,j,rfl,hk,hp⟩
   .cases hp
 have f:∀{k:Nat} {cs:List AV},aa (kE (jK is) bs is) k=some cs->∃i ds,is[k]? =some (some i)/\aa bs i=some ds/\cs=ds.map (AV.rn (jK is))/\∀c∈ds,c.atp (inO is)=true:=λ{k cs} u=>by
  unfold aa at u;split at u
  .rename_i y A;rcases hcb A with ⟨_,rfl⟩|⟨i,x,d,h,rfl,R⟩
   .cases u
   .rw [EB _ R] at u
    cases L:x.cs? with
    |none=>rw[L] at u;cases u
    |some ds=>
     rw[L] at u;simp only[zM,zN] at u;exact⟨i,ds,d,by simp only[aa,h,L],u.symm,sn R L⟩
  .cases u
 have g:∀{k:Nat} {x:LB},ah (kE (jK is) bs is) k=some x->∃i,is[k]? =some (some i)/\ah bs i=some x/\x.n=0/\∀M:Hp,x.M.le M:=λ{k x} u=>by
  unfold ah at u;split at u
  .rename_i y A;rcases hcb A with ⟨_,rfl⟩|⟨i,z,d,h,rfl,R⟩
   .cases u
   .rw [EA] at u;exact⟨i,d,by simp only[ah,h,u],FW R u⟩
  .cases u
 have J:=λ{k k' i:Nat}=>l8 h1 (k:=k) (k':=k') (i:=i)
 have toR:∀{x:AV} {v:Value},RV G.M G.σ bs.length x v->x.atp (inO is)=true->RV G2.M G2.σ (kE (jK is) bs is).length (x.rn (jK is)) v:=λ{x v} L hp=>by
  rw[Z];refine L.rn (λb hb _=>?_) hp;unfold inO at hb
  cases N:ixO is b 0 with
  |none=>rw[N] at hb;cases hb
  |some k=>
   obtain⟨_,d⟩:=vr N;rw[yB] at d;have hr:jK is b=k:=by unfold jK;rw[N]
   rw[hr,K d,hcl];exact⟨rfl,(zB.1 d).1⟩
 have D:∀{p:Pl} {x:AV},(⟨rnE (jK is) env,kE (jK is) bs is,lo⟩:St).at p=some x->(∃t y,p=.sl t/\(⟨env,bs,lo⟩:St).at (.sl t)=some y/\x=y.rn (jK is)/\y.atp (inO is)=true)\/(∃k i j y,p=.bx k j/\is[k]? =some (some i)/\(⟨env,bs,lo⟩:St).at (.bx i j)=some y/\x=y.rn (jK is)/\y.atp (inO is)=true):=λ{p x} hp=>by
  cases p with
  |sl t=>
   simp only[St.at,Gv] at hp
   cases N:au env t with
   |none=>rw[N] at hp;cases hp
   |some y=>
    rw[N] at hp;simp only[zM,zN] at hp
    exact .inl ⟨t,y,rfl,N,hp.symm,Ha he N⟩
  |bx k j=>
   simp only[St.at] at hp
   cases Y:aa (kE (jK is) bs is) k with
   |none=>rw[Y] at hp;cases hp
   |some cs=>
    obtain⟨i,ds,d,h,q3,R⟩:=f Y;rw[Y,q3] at hp;simp only[ZG,ZF] at hp
    cases hj:ds[j]? with
    |none=>rw[hj] at hp;cases hp
    |some y=>
     rw[hj] at hp;simp only[zM,zN] at hp;exact .inr ⟨k,i,j,y,rfl,d,by simp only[St.at,h,ZG,hj],hp.symm,R y (zE hj)⟩
 have I:∀{k i:Nat} (j:Nat),is[k]? =some (some i)->aw G2.σ a w (.bx k j)=aw G.σ a w (.bx i j):=λ{k i} j hk=>by simp only[aw,K hk]
 refine⟨G2,by rw[Z];exact hs.fr,by rw[Z];exact hs.ok,hs.nt,λp x hp=>?_,λk j x hp=>?_,λk cs hk=>?_,λk cs hk=>?_,λk k' cs cs' hk X e=>?_,λp z l hp=>?_,λp q B hp N=>?_,λp B hp k cs hk=>?_,λp B hp=>?_,hs.lo,by show E.nb<=_;rw[hcl];omega,λb hb=>?_,?_⟩
 .rcases D hp with ⟨t,y,rfl,d,rfl,h⟩|⟨k,i,j,y,rfl,H,d,rfl,h⟩
  .show RV G2.M G2.σ _ _ (aw G2.σ a w (.sl t));rw[nh];exact toR (hs.val _ _ d) (by rw[lJ];exact h)
  .show RV G2.M G2.σ _ _ (aw G2.σ a w (.bx k j));rw[nh,I j H];exact toR (hs.val _ _ d) (by rw[lJ];exact h)
 .rcases D hp with ⟨t,y,e,_⟩|⟨k',i,j',y,e,H,d,rfl,h⟩
  .cases e
  .cases e;rw[I _ H];exact hs.one _ _ _ d
 .obtain ⟨i,ds,d,h,rfl,_⟩:=f hk;rw[K d,zF];exact hs.box i ds h
 .obtain ⟨i,ds,d,h,rfl,_⟩:=f hk;rw[K d,Z];exact hs.bmem i ds h
 .obtain ⟨i,ds,d,h,_,_⟩:=f hk;obtain⟨S,ds',m,V,_,_⟩:=f X;rw[K d,K m] at e;have:=hs.inj i S ds ds' h V e;subst this;exact J d m
 .rcases D hp with ⟨t,y,rfl,d,e,h⟩|⟨k,i,j,y,rfl,H,d,e,h⟩
  .have A:=uo e.symm;subst A;obtain⟨ad,kk,Q,P,C⟩:=hs.own _ _ _ d;refine⟨ad,kk,Q,P,?_⟩;rcases C with C|⟨B,hB,r4,O⟩
   .exact .inl C
   .exact .inr ⟨B,by rw[T];exact hB,r4,O.lt,O.cells,by rw[Z];exact O.free,O.mine⟩
  .have A:=uo e.symm;subst A;obtain⟨ad,kk,Q,P,C⟩:=hs.own _ _ _ d;refine⟨ad,kk,by rw[I j H];exact Q,P,?_⟩
   rcases C with C|⟨B,hB,r4,O⟩
   .exact .inl C
   .exact .inr ⟨B,by rw[U j H];exact hB,r4,O.lt,O.cells,by rw[Z];exact O.free,O.mine⟩
 .rcases r hp with ⟨t,rfl,d⟩|⟨k,i,j,rfl,H,d⟩<;>rcases r N with ⟨t',rfl,m⟩|⟨k',S,j',rfl,q0',m⟩
  .exact hs.clinj _ _ B d m
  .have:=hs.clinj _ _ B d m;cases this
  .have:=hs.clinj _ _ B d m;cases this
  .have:=hs.clinj _ _ B d m;cases this;have:=J H q0';subst this;rfl
 .obtain ⟨i,ds,d,h,_,_⟩:=f hk;rw[K d];rcases r hp with ⟨t,rfl,q⟩|⟨k',S,j,rfl,H,q⟩
  .exact hs.clbox _ B q i ds h
  .exact hs.clbox _ B q i ds h
 .rcases r hp with ⟨t,rfl,q⟩|⟨k',S,j,rfl,H,q⟩
  .exact hs.cllt _ B q
  .exact hs.cllt _ B q
 .have hlt:b<is.length:=by omega
  have W:=hs.sig b hb;rw[F];simp only
  cases hk:is[b]? with
  |none=>exact W
  |some o=>
   cases o with
   |none=>exact W
   |some i=>
    have:=rT h2 hk (by omega)
    rw[ZI] at this;subst this;exact W
 .refine ⟨λB o hsp=>?_,λk x hk=>?_,λk k' x x' hk X e=>?_,hs.sp.ds,λk x hk j B o hj=>by
   obtain⟨i,d,h,_,_⟩:=g hk;obtain⟨Q,P,C⟩:=hs.sp.rows i x h j B o hj;exact⟨Q,by rw[U j d];exact P,by rw[Z];exact C⟩⟩
  .rcases hsp with ⟨k,x,hk,e,ho⟩|hm
   .obtain ⟨i,d,h,_,_⟩:=g hk;rw[K d] at e;obtain⟨Q,P,C⟩:=hs.sp.ob B o (.inl ⟨i,x,h,e,ho⟩);refine⟨Q,λp hp=>?_,C⟩;rcases r hp with ⟨t,rfl,q⟩|⟨k',S,j,rfl,H,q⟩<;>exact P _ q
   .obtain ⟨Q,P,C⟩:=hs.sp.ob B o (.inr hm);refine⟨Q,λp hp=>?_,C⟩;rcases r hp with ⟨t,rfl,q⟩|⟨k',S,j,rfl,H,q⟩<;>exact P _ q
  .obtain ⟨i,d,h,q3,R⟩:=g hk;exact⟨R _,by omega,λc u=>by omega⟩
  .obtain ⟨i,d,h,_,_⟩:=g hk;obtain⟨S,m,V,_,_⟩:=g X;rw[K d,K m] at e;have:=hs.sp.inj i S x x' h V e;subst this;exact J d m
theorem JT{p:Nat->Bool}{bs:List Box}{i:Nat}{l:List (Option Nat)}(h:atB p (jG bs i)=true)(k:okO p bs l=true):okO p bs (some i::l)=true:=by simp only[okO,h,k,Bool.and_self]
theorem tQ{α:Type}{f:α->AV}{z:Nat}(hp:Plain f z){p:Nat->Bool}(k:Nat)(l:List α):atB p (aJ f z k l)=true:=by
 simp only[aJ,atB,zS];intro c a;rcases zY.1 a with a|a
 .exact (hp.mem a).2
 .rw [(ZY.1 a).2];rfl
theorem IU{p:Nat->Bool}{x:Box}{l:List Box}(h:atB p x=true)(k:xn p l=true):xn p (x::l)=true:=by simp only[xn,h,k,Bool.and_self]
theorem al.lay{s t:St}(is:List (Option Nat))(hb:okO (inO is) s.bs is=true)(h:(⟨rnE (jK is) s.env,kE (jK is) s.bs is,s.lo⟩:St).fo true λa=>al a t)(e:qo is=true:=by rfl)(d:E4 s.lo 0 is=true:=by rfl)(c:ltO s.bs.length is=true:=by rfl)(b:Nat.ble s.lo is.length=true:=by rfl)(he:atE (inO is) s.env=true:=by rfl):al s t:=by
 rw[St.dj] at h;exact⟨(aD.lay s is e d c b he hb).trans h.out⟩
theorem ag.lay{s:St}{rs:List eP}{Q:AV->List Box->Prop}(is:List (Option Nat))(hb:okO (inO is) s.bs is=true)(h:(⟨rnE (jK is) s.env,kE (jK is) s.bs is,s.lo⟩:St).fo true λa=>ag a rs Q)(g:qo is=true:=by rfl)(f:E4 s.lo 0 is=true:=by rfl)(e:ltO s.bs.length is=true:=by rfl)(d:Nat.ble s.lo is.length=true:=by rfl)(he:atE (inO is) s.env=true:=by rfl):ag s rs Q:=by
 rw[St.dj] at h;obtain⟨a,c,b⟩:=h.out;exact⟨a,(aD.lay s is g f e d he hb).trans c,b⟩
theorem ae.at{P:Program}{f:FuncId}{ab raw c:List AV}{bs g:List Box}{Q:AV->List Box->Prop}{K:AV->List Box->Prop}(is:List Nat)(h:Sem P f c g Q)(m:raw.map (AV.rn (rho is))=c)(p:cut is bs is=g)
  (z:∀r bs',Q r bs'->Nat.ble is.length bs'.length=true/\r.atp (λb=>decide (b<bs'.length))=true/\xn (λb=>decide (b<bs'.length)) bs'=true)
  (hb:okO (tB is) bs (is.map some)=true) (A:∀r bs',Q r bs'->K (r.rn (pie is bs.length)) (back is bs bs'))
  (n:qo (is.map some)=true:=by rfl) (o:ltO bs.length (is.map some)=true:=by rfl) (w:raw.all (AV.atp (tB is))=true:=by rfl):ae P f ab raw bs K:=by
 subst m p;have a:∀{k i:Nat},is[k]? =some i->(is.map some)[k]? =some (some i):=λ{k i} h=>by rw[ZF,h];rfl
 refine .raw (Sem.ren is ?_ (λi d=>?_) (by simpa using w) (λi d=>?_) (h.mono λr bs' l=>⟨?_,l⟩)) ?_
 .refine List.pairwise_iff_getElem.2 λi j d x y e=>?_;have:=l8 n (a (zA d)) (a (k:=j) (i:=is[i]) (by rw[zA x,e]))
  omega
 .obtain ⟨k,hk⟩:=ZR d;exact qz o (a hk)
 .obtain ⟨k,hk⟩:=ZR d;exact qp hb (a hk)
 .obtain ⟨v,u,t⟩:=z r bs' l;exact⟨zr v,u,t⟩
 .rintro r bs' ⟨s,q,l,rfl,rfl⟩;exact A s q l
section
variable{α:Type}{f:α->AV}{z:Nat}
theorem uk(hp:Plain f z){bs:List Box}{b k i:Nat}{l:List α}{x:α}(hb:bs[b]? =some (aJ f z k l))(a:l[i]? =some x):aa bs b=some (cellsOf (l.map f)++List.replicate ((k-l.length)*z) AV.top):=by
 refine db (ed hb) λe=>?_;have:=congrArg List.length e;rw[zC,hp.len,ZP] at this;have c:=(zB.1 a).1;have:=hp.pos;have d:0<l.length*z:=Nat.mul_pos (by omega) hp.pos
 omega
theorem p8(hp:Plain f z){k i off:Nat}{l:List α}{x:α}(d:l[i]? =some x)(e:off<z):(cellsOf (l.map f)++List.replicate ((k-l.length)*z) AV.top)[i*z+off]? =(f x).cells[off]?:=by
 obtain⟨b,rfl⟩:=zB.1 d
 have a:i*z+off<(cellsOf (l.map f)).length:=by
  rw[hp.len];have:(i+1)*z<=l.length*z:=ZE _ b;rw[ZL,yM] at this;omega
 rw[zK a,jA (z:=z) (λy c=>by obtain⟨x,_,rfl⟩:=zk.1 c;exact hp.sz x) i (by simpa using b) off e]
 simp
theorem ElN.elem(hp:Plain f z){e:List (Nat×AV)}{bs:List Box}{lo b k i:Nat}{l:List α}{x:α}{K:AV->Prop}(hb:bs[b]? =some (aJ f z k l))(a:l[i]? =some x)(h:K (.agg (f x).cells)):ElN true z ⟨e,bs,lo⟩ (.elp b i z 0) K:=by
 refine⟨?_⟩;simp only[St.rd,uk hp hb a,Zf];have g:=(zB.1 a).1
 have hlen:i*z+z<=(cellsOf (l.map f)++List.replicate ((k-l.length)*z) AV.top).length:=by
  rw[zC,hp.len];have:(i+1)*z<=l.length*z:=ZE _ g;rw[ZL,yM] at this;omega
 simp only[bV];refine af.2 ⟨by rw[Nat.ble_eq];simp only[zF,Zd];omega,?_⟩
 have n:(((cellsOf (l.map f)++List.replicate ((k-l.length)*z) AV.top).drop (i*z)).map AV.aI).take z=(f x).cells:=by
  apply Zo;intro j
  by_cases d:j<z
  .rw [List.getElem?_take_of_lt d,ZF,List.getElem?_drop,p8 hp a d]
   cases m:(f x).cells[j]? with
   |none=>rfl
   |some c=>simp only[zM];rw[hp.de x c (zE m)]
  .rw [zR (by simp;omega),zR (by rw[hp.sz];omega)]
 rw[n];exact h
theorem EsN.elem(hp:Plain f z)(hk:∀x,ba (f x)=true){e:List (Nat×AV)}{bs:List Box}{lo b k i:Nat}{l:List α}{x y:α}{v:AV}{K:St->Prop}(hb:bs[b]? =some (aJ f z k l))(t:l[i]? =some x)(w:v=f y)(h:K ⟨e,bs.set b (aJ f z k (l.set i y)),lo⟩):EsN z ⟨e,bs,lo⟩ b i z 0 v K:=by
 subst w;refine⟨?_⟩;simp only[lM,uk hp hb t,Zf];have u:=(zB.1 t).1;have hmul:(i+1)*z<=l.length*z:=ZE _ u;rw[ZL,yM] at hmul;refine⟨⟨hk y,hp.sz y,hp.pos,by rw[zC,hp.len];omega⟩,?_⟩
 have he:setAt (cellsOf (l.map f)++List.replicate ((k-l.length)*z) AV.top) (i*z) (f y).cells=cellsOf ((l.set i y).map f)++List.replicate ((k-(l.set i y).length)*z) AV.top:=by
  apply Zo;intro j;rw[dZ];have s:(cellsOf (l.map f)++List.replicate ((k-l.length)*z) AV.top).length=l.length*z+(k-l.length)*z:=by rw[zC,hp.len,zf]
  have r:(cellsOf ((l.set i y).map f)).length=l.length*z:=by rw[hp.len,zm]
  have q:(cellsOf (l.map f)).length=l.length*z:=hp.len l;have o:(l.set i y)[i]? =some y:=by simp[u]
  by_cases B:j<l.length*z
  .have A:j/z<l.length:=(Zr hp.pos).2 B;have hr:j %z<z:=yT _ hp.pos;have d:j/z*z+j %z=j:=by have:=yG j z;rw[yP] at this;exact this
   by_cases a:j/z=i
   .have c:i*z<=j/\j<i*z+(f y).cells.length/\j<(cellsOf (l.map f)++List.replicate ((k-l.length)*z) AV.top).length:=by
     rw[hp.sz,s];rw[a] at d;omega
    rw[if_pos c];have:=p8 (k:=k) (off:=j %z) hp o hr;rw[<-a,d] at this;rw[a] at this;rw[this];congr 1;rw[a] at d;omega
   .have c:¬(i*z<=j/\j<i*z+(f y).cells.length/\j<(cellsOf (l.map f)++List.replicate ((k-l.length)*z) AV.top).length):=by
     rintro⟨m,g,_⟩;rw[hp.sz] at g;apply a;refine Nat.div_eq_of_lt_le m ?_;rw[ZL,yM];exact g
    rw[if_neg c];have n:l[j/z]? =some l[j/z]:=zA A;have p:(l.set i y)[j/z]? =some l[j/z]:=by rw[Ze (λe=>a e.symm)];exact n
    have m:=p8 (k:=k) hp n hr;have g:=p8 (k:=k) hp p hr;rw[d] at m g;rw[m,g]
  .have c:¬(i*z<=j/\j<i*z+(f y).cells.length/\j<(cellsOf (l.map f)++List.replicate ((k-l.length)*z) AV.top).length):=by
    rintro⟨m,g,_⟩;rw[hp.sz] at g;omega
   rw[if_neg c,zZ (by omega),zZ (by omega),r,q,zm]
 rw[he];exact h
theorem qZ.one(hp:Plain f z)(hk:∀x,ba (f x)=true/\(f x).flat=true){e:List (Nat×AV)}{bs:List Box}{lo:Nat}{x:α}{v:AV}{K:AV->St->Prop}(a:v=f x)(h:K (.bsl bs.length 1 1) ⟨e,bs++[aJ f z 1 [x]],lo⟩):qZ z [v] ⟨e,bs,lo⟩ K:=by
 subst a;refine⟨.inl ⟨hp.pos,λv a=>?_⟩,?_⟩
 .rw [zp] at a;subst a;exact⟨hk x,hp.sz x⟩
 .simpa [aJ] using h
end
theorem qZ.mpt{e:List (Nat×AV)}{bs:List Box}{lo c:Nat}{v:AV}{K:AV->St->Prop}(a:v=.mpt c)(h:K (.bsl bs.length 1 1) ⟨e,bs++[aJ AV.mpt 1 1 [c]],lo⟩):qZ 1 [v] ⟨e,bs,lo⟩ K:=by
 subst a;exact⟨.inr ⟨rfl,c,rfl⟩,by simpa[aJ,cellsOf,AV.cells] using h⟩
theorem jC:∀(a b:List AV),cellsOf (a++b)=cellsOf a++cellsOf b
 |[],b=>rfl
 |x::a,b=>by simp only[ze,cellsOf,jC a b,zg]
theorem al.mm{α:Type}{f:α->AV}{z:Nat}(hp:Plain f z){s t:St}(c i:Nat){cs:List AV}{b m k k0:Nat}{l:List α}(d:s.bs[c]? =some (.cells cs))(a:cs[i]? =some (.bsl b m k))(hb:s.bs[b]? =some (aJ f z k0 l))(hm:m<=l.length)(h:al ⟨s.env,(s.bs.set b .dead).set c (.cells (cs.set i (.sl .no ((l.take m).map f)))),s.lo⟩ t):al s t:=⟨(aD.mm hp s c i d a hb hm).trans h.out⟩
theorem iS{b:ByteArray}{n:Int}{K:Int->Prop}{y:UInt8}(k:K y.toNat)(h:b[n.toNat]? =some y:=by assumption)(a:0<=n:=by omega):Hg b n K:=⟨y,⟨a,h⟩,k⟩
theorem gIs{b:ByteArray}{n:Int}{K:Int->Prop}(h:Hg b n K):Hg b n K:=h
theorem oko{p:Prop}(h:p:=by repeat' (first|exact rfl|exact tQ plainN _ _|exact tQ qh _ _|exact tQ nu _ _|exact tQ plainMsA _ _|refine JT ?_ ?_|refine okO_none ?_|refine IU ?_ ?_)):p:=h
theorem ae.ate{P:Program}{f:FuncId}{ab raw a:List AV}{bs c:List Box}{v:AV}{b:List Box}{K:AV->List Box->Prop}(is:List Nat)(h:Sem P f a c λr bs'=>r=v/\bs'=b)(d:raw.map (AV.rn (rho is))=a)(i:cut is bs is=c)(o:K (v.rn (pie is bs.length)) (back is bs b))
  (m:Nat.ble is.length b.length=true:=by rfl) (l:v.atp (λk=>decide (k<b.length))=true:=by rfl) (j:xn (λk=>decide (k<b.length)) b=true:=by exact oko) (hb:okO (tB is) bs (is.map some)=true:=by exact oko)
  (e:qo (is.map some)=true:=by rfl) (g:ltO bs.length (is.map some)=true:=by rfl) (n:raw.all (AV.atp (tB is))=true:=by rfl):ae P f ab raw bs K:=by
 refine ae.at is h d i ?_ hb ?_ e g n
 .rintro r bs' ⟨rfl,rfl⟩;exact⟨m,l,j⟩
 .rintro r bs' ⟨rfl,rfl⟩;exact o
end Go.AM
