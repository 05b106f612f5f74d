/-
  Texts of this bj joined (wip/gen/bundle.py),those declarations only that are needed:AmLy AmSk PlA. By an AI agent.
-/
import Derived.Test.YtcjfkbdbcgmomaaGreatDoorBau
set_option linter.unusedSimpArgs false
set_option linter.unusedVariables false
namespace Go.AM
open Go.CK Go.RowKit
def ixO:List (Option Nat)->Nat->Nat->Option Nat
 |[],_,_=>none
 |none::l,b,k=>ixO l b (k+1)
 |some i::l,b,k=>match Nat.beq i b with
  |true=>some k
  |false=>ixO l b (k+1)
theorem sV:∀{l:List (Option Nat)} {b k q:Nat},ixO l b k=some q->k<=q/\l[q-k]? =some (some b)
 |none::l,b,k,q,h=>by
  obtain⟨h1,h2⟩:=sV (l:=l) (k:=k+1) h;refine⟨by omega,?_⟩
  rw[show q-k=(q-(k+1))+1 by omega]
  simpa using h2
 |some i::l,b,k,q,h=>by
  simp only[ixO] at h;split at h
  .rename_i hb;cases h;have:=zP hb;subst this;simp
  .obtain ⟨h1,h2⟩:=sV h;refine⟨by omega,?_⟩
   rw[show q-k=(q-(k+1))+1 by omega]
   simpa using h2
def inO(l:List (Option Nat))(b:Nat):Bool:=match ixO l b 0 with
 |some _=>true
 |none=>false
def kJ(l:List (Option Nat))(b:Nat):Nat:=match ixO l b 0 with
 |some k=>k
 |none=>0
def ky(f:Nat->Nat)(bs:List Box):List (Option Nat)->List Box
 |[]=>[]
 |none::l=>.dead::ky f bs l
 |some i::l=>rnB f (qy bs i)::ky f bs l
theorem tq(f:Nat->Nat)(bs:List Box):∀(l:List (Option Nat)) (k:Nat),(ky f bs l)[k]? =(l[k]?).map λo=>match o with|some i=>rnB f (qy bs i)|none=>.dead
 |[],k=>by simp[ky]
 |none::l,0=>by simp[ky]
 |some i::l,0=>by simp[ky]
 |none::l,k+1=>by simp[ky,tq f bs l k]
 |some i::l,k+1=>by simp[ky,tq f bs l k]
theorem mv(f:Nat->Nat)(bs:List Box):∀l:List (Option Nat),(ky f bs l).length=l.length
 |[]=>rfl
 |none::l=>by simp[ky,mv f bs l]
 |some i::l=>by simp[ky,mv f bs l]
def rnE(f:Nat->Nat):List (Nat×AV)->List (Nat×AV)
 |[]=>[]
 |(t,x)::e=>(t,x.rn f)::rnE f e
theorem Cj(f:Nat->Nat):∀(e:List (Nat×AV)) (t:Nat),au (rnE f e) t=(au e t).map (AV.rn f)
 |[],t=>rfl
 |(k,x)::e,t=>by
  simp only[rnE,au]
  cases Nat.beq k t with
  |true=>rfl
  |false=>exact Cj f e t
def atE(p:Nat->Bool):List (Nat×AV)->Bool
 |[]=>true
 |(_,x)::e=>x.atp p&&atE p e
theorem CI{p:Nat->Bool}:∀{e:List (Nat×AV)} {t:Nat} {x:AV},atE p e=true->au e t=some x->x.atp p=true
 |(k,y)::e,t,x,h,hg=>by
  simp only[atE,zD] at h;simp only[au] at hg;split at hg
  .cases hg;exact h.1
  .exact CI h.2 hg
 |[],_,_,_,hg=>by cases hg
def uX:List (Option Nat)->Bool
 |[]=>true
 |none::l=>uX l
 |some i::l=>(match ixO l i 0 with|some _=>false|none=>true)&&uX l
def Db(n:Nat):Nat->List (Option Nat)->Bool
 |_,[]=>true
 |b,none::l=>Db n (b+1) l
 |b,some i::l=>(Nat.ble n b||Nat.beq i b)&&Db n (b+1) l
def ltO(N:Nat):List (Option Nat)->Bool
 |[]=>true
 |none::l=>ltO N l
 |some i::l=>Nat.blt i N&&ltO N l
theorem sW:∀{l:List (Option Nat)} {b k:Nat},ixO l b k=none->some b∉l
 |none::l,b,k,h,hm=>by
  rcases zI.1 hm with hm|hm
  .cases hm
  .exact sW (l:=l) h hm
 |some i::l,b,k,h,hm=>by
  simp only[ixO] at h;split at h
  .cases h
  .rename_i hb;rcases zI.1 hm with hm|hm
   .cases hm;simp at hb
   .exact sW h hm
 |[],_,_,_,hm=>by cases hm
theorem nL:∀{l:List (Option Nat)},uX l=true->∀{k k' i:Nat},l[k]? =some (some i)->l[k']? =some (some i)->k=k'
 |none::l,h,0,k',i,h1,h2=>by simp at h1
 |none::l,h,k+1,0,i,h1,h2=>by simp at h2
 |none::l,h,k+1,k'+1,i,h1,h2=>by
  have:=nL (l:=l) h (k:=k) (k':=k') (i:=i) (by simpa using h1) (by simpa using h2)
  rw[this]
 |some j::l,h,k,k',i,h1,h2=>by
  simp only[uX,zD] at h
  have hno:some j∉l:=by
   have:=h.1;split at this
   .cases this
   .rename_i hn;exact sW hn
  cases k with
  |zero=>
   simp at h1;subst h1
   cases k' with
   |zero=>rfl
   |succ k'=>exact absurd (zE (by simpa using h2)) hno
  |succ k=>
   cases k' with
   |zero=>simp at h2;subst h2;exact absurd (zE (by simpa using h1)) hno
   |succ k'=>
    have:=nL h.2 (k:=k) (k':=k') (i:=i) (by simpa using h1) (by simpa using h2)
    rw[this]
 |[],_,k,k',i,h1,_=>by simp at h1
theorem pF{n:Nat}:∀{l:List (Option Nat)} {c k i:Nat},Db n c l=true->l[k]? =some (some i)->c+k<n->i=c+k
 |none::l,c,0,i,h,h1,hlt=>by simp at h1
 |none::l,c,k+1,i,h,h1,hlt=>by
  have:=pF (l:=l) (c:=c+1) (k:=k) (i:=i) h (by simpa using h1) (by omega)
  omega
 |some j::l,c,k,i,h,h1,hlt=>by
  simp only[Db,zD,ZM] at h
  cases k with
  |zero=>
   simp at h1;subst h1;rcases h.1 with h|h
   .have:=zr h;omega
   .exact zP h
  |succ k=>
   have:=pF (c:=c+1) (k:=k) (i:=i) h.2 (by simpa using h1) (by omega)
   omega
 |[],c,k,i,_,h1,_=>by simp at h1
theorem sO{N:Nat}:∀{l:List (Option Nat)} {k i:Nat},ltO N l=true->l[k]? =some (some i)->i<N
 |none::l,0,i,h,h1=>by simp at h1
 |none::l,k+1,i,h,h1=>sO (l:=l) (k:=k) h (by simpa using h1)
 |some j::l,k,i,h,h1=>by
  simp only[ltO,zD] at h
  cases k with
  |zero=>simp at h1;subst h1;simpa[Nat.blt_eq] using h.1
  |succ k=>exact sO h.2 (by simpa using h1)
 |[],k,i,_,h1=>by simp at h1
def okO(p:Nat->Bool)(bs:List Box):List (Option Nat)->Bool
 |[]=>true
 |none::l=>okO p bs l
 |some i::l=>atB p (qy bs i)&&okO p bs l
theorem sC{p:Nat->Bool}{bs:List Box}:∀{l:List (Option Nat)} {k i:Nat},okO p bs l=true->l[k]? =some (some i)->atB p (qy bs i)=true
 |none::l,0,i,h,h1=>by simp at h1
 |none::l,k+1,i,h,h1=>sC (l:=l) (k:=k) h (by simpa using h1)
 |some j::l,k,i,h,h1=>by
  simp only[okO,zD] at h
  cases k with
  |zero=>simp at h1;subst h1;exact h.1
  |succ k=>exact sC h.2 (by simpa using h1)
 |[],k,i,_,h1=>by simp at h1
theorem aG.lay(s:St)(is:List (Option Nat))(h1:uX is=true)(h2:Db s.lo 0 is=true)(h3:ltO s.bs.length is=true)(h4:Nat.ble s.lo is.length=true)(he:atE (inO is) s.env=true)(hb:okO (inO is) s.bs is=true):
  aG s ⟨rnE (kJ is) s.env,ky (kJ is) s.bs is,s.lo⟩:=λE G a w hs=>by
 obtain⟨env,bs,lo⟩:=s;simp only at h2 h3 h4 he hb|-;have h4:=zr h4;have hlo:lo=E.nb:=hs.lo;have hcl:(ky (kJ is) bs is).length=is.length:=mv _ _ _
 have hcb:∀{k:Nat} {y:Box},(ky (kJ is) bs is)[k]? =some y->(is[k]? =some none/\y=.dead)\/∃i x,is[k]? =some (some i)/\bs[i]? =some x/\y=rnB (kJ is) x/\atB (inO is) x=true:=λ{k y} hy=>by
  rw[tq] at hy
  cases hk:is[k]? with
  |none=>rw[hk] at hy;cases hy
  |some o=>
   rw[hk] at hy
   cases o with
   |none=>simp at hy;exact .inl ⟨rfl,hy.symm⟩
   |some i=>
    have hlt:=sO h3 hk;have hx:bs[i]? =some bs[i]:=zA hlt;have hat:=sC hb hk;rw[tE hx] at hat;simp only[zM,zO,tE hx] at hy;exact .inr ⟨i,_,rfl,hx,hy.symm,hat⟩
 obtain⟨G2,hG2⟩:∃G2:Gh,G2=⟨G.M,λb=>match is[b]? with|some (some i)=>G.σ i|_=>G.σ b,λp=>match p with|.sl t=>G.cl (.sl t)|.bx b j=>match is[b]? with|some (some i)=>G.cl (.bx i j)|_=>none⟩:=⟨_,rfl⟩;have hM:G2.M=G.M:=by rw[hG2]
 have hσ:∀{k i:Nat},is[k]? =some (some i)->G2.σ k=G.σ i:=λ{k i} hk=>by rw[hG2];simp only[hk]
 have hclS:∀t,G2.cl (.sl t)=G.cl (.sl t):=λt=>by rw[hG2]
 have hclB:∀{k i:Nat} (j:Nat),is[k]? =some (some i)->G2.cl (.bx k j)=G.cl (.bx i j):=λ{k i} j hk=>by rw[hG2];simp only[hk]
 have hcl2:∀{p:Pl} {B:Nat},G2.cl p=some B->(∃t,p=.sl t/\G.cl (.sl t)=some B)\/∃k i j,p=.bx k j/\is[k]? =some (some i)/\G.cl (.bx i j)=some B:=λ{p B} hp=>by
  cases p with
  |sl t=>exact .inl ⟨t,rfl,by rw[<-hclS];exact hp⟩
  |bx k j=>
   rw[hG2] at hp;simp only at hp;split at hp
   .rename_i i hk;exact .inr ⟨k,i,j,rfl,hk,hp⟩
   .cases hp
 have hcells:∀{k:Nat} {cs:List AV},aa (ky (kJ is) bs is) k=some cs->∃i ds,is[k]? =some (some i)/\aa bs i=some ds/\cs=ds.map (AV.rn (kJ is))/\∀c∈ds,c.atp (inO is)=true:=λ{k cs} hc=>by
  unfold aa at hc;split at hc
  .rename_i y hy;rcases hcb hy with ⟨_,rfl⟩|⟨i,x,q1,q2,rfl,q4⟩
   .cases hc
   .rw [Hb _ q4] at hc
    cases hx:x.cs? with
    |none=>rw[hx] at hc;cases hc
    |some ds=>
     rw[hx] at hc;simp only[zM,zO] at hc;exact⟨i,ds,q1,by simp only[aa,q2,hx],hc.symm,DK q4 hx⟩
  .cases hc
 have hloops:∀{k:Nat} {x:LB},ai (ky (kJ is) bs is) k=some x->∃i,is[k]? =some (some i)/\ai bs i=some x/\x.n=0/\∀M:Hp,x.M.le M:=λ{k x} hc=>by
  unfold ai at hc;split at hc
  .rename_i y hy;rcases hcb hy with ⟨_,rfl⟩|⟨i,z,q1,q2,rfl,q4⟩
   .cases hc
   .rw [Ha] at hc;exact⟨i,q1,by simp only[ai,q2,hc],HO q4 hc⟩
  .cases hc
 have hone:=λ{k k' i:Nat}=>nL h1 (k:=k) (k':=k') (i:=i)
 have toR:∀{x:AV} {v:Value},RV G.M G.σ bs.length x v->x.atp (inO is)=true->RV G2.M G2.σ (ky (kJ is) bs is).length (x.rn (kJ is)) v:=λ{x v} hx hp=>by
  rw[hM];refine hx.rn (λb hb _=>?_) hp;unfold inO at hb
  cases hq:ixO is b 0 with
  |none=>rw[hq] at hb;cases hb
  |some k=>
   obtain⟨_,q1⟩:=sV hq;rw[Nat.sub_zero] at q1;have hr:kJ is b=k:=by unfold kJ;rw[hq]
   rw[hr,hσ q1,hcl];exact⟨rfl,(zB.1 q1).1⟩
 have hat:∀{p:Pl} {x:AV},(⟨rnE (kJ is) env,ky (kJ is) bs is,lo⟩:St).at p=some x->(∃t y,p=.sl t/\(⟨env,bs,lo⟩:St).at (.sl t)=some y/\x=y.rn (kJ is)/\y.atp (inO is)=true)\/(∃k i j y,p=.bx k j/\is[k]? =some (some i)/\(⟨env,bs,lo⟩:St).at (.bx i j)=some y/\x=y.rn (kJ is)/\y.atp (inO is)=true):=λ{p x} hp=>by
  cases p with
  |sl t=>
   simp only[St.at,Cj] at hp
   cases hq:au env t with
   |none=>rw[hq] at hp;cases hp
   |some y=>
    rw[hq] at hp;simp only[zM,zO] at hp
    exact .inl ⟨t,y,rfl,hq,hp.symm,CI he hq⟩
  |bx k j=>
   simp only[St.at] at hp
   cases hbk:aa (ky (kJ is) bs is) k with
   |none=>rw[hbk] at hp;cases hp
   |some cs=>
    obtain⟨i,ds,q1,q2,q3,q4⟩:=hcells hbk;rw[hbk,q3] at hp;simp only[ZG,ZF] at hp
    cases hj:ds[j]? with
    |none=>rw[hj] at hp;cases hp
    |some y=>
     rw[hj] at hp;simp only[zM,zO] at hp;exact .inr ⟨k,i,j,y,rfl,q1,by simp only[St.at,q2,ZG,hj],hp.symm,q4 y (zE hj)⟩
 have hval:∀{k i:Nat} (j:Nat),is[k]? =some (some i)->ay G2.σ a w (.bx k j)=ay G.σ a w (.bx i j):=λ{k i} j hk=>by simp only[ay,hσ hk]
 refine⟨G2,by rw[hM];exact hs.fr,by rw[hM];exact hs.ok,hs.nt,λp x hp=>?_,λk j x hp=>?_,λk cs hk=>?_,λk cs hk=>?_,λk k' cs cs' hk hk' e=>?_,λp z l hp=>?_,λp q B hp hq=>?_,λp B hp k cs hk=>?_,λp B hp=>?_,hs.lo,by show E.nb<=_;rw[hcl];omega,λb hb=>?_,?_⟩
 .rcases hat hp with ⟨t,y,rfl,q1,rfl,q2⟩|⟨k,i,j,y,rfl,q0,q1,rfl,q2⟩
  .show RV G2.M G2.σ _ _ (ay G2.σ a w (.sl t));rw[xH];exact toR (hs.val _ _ q1) (by rw[vJ];exact q2)
  .show RV G2.M G2.σ _ _ (ay G2.σ a w (.bx k j));rw[xH,hval j q0];exact toR (hs.val _ _ q1) (by rw[vJ];exact q2)
 .rcases hat hp with ⟨t,y,e,_⟩|⟨k',i,j',y,e,q0,q1,rfl,q2⟩
  .cases e
  .cases e;rw[hval _ q0];exact hs.one _ _ _ q1
 .obtain ⟨i,ds,q1,q2,rfl,_⟩:=hcells hk;rw[hσ q1,zF];exact hs.box i ds q2
 .obtain ⟨i,ds,q1,q2,rfl,_⟩:=hcells hk;rw[hσ q1,hM];exact hs.bmem i ds q2
 .obtain ⟨i,ds,q1,q2,_,_⟩:=hcells hk;obtain⟨i',ds',q1',q2',_,_⟩:=hcells hk';rw[hσ q1,hσ q1'] at e;have:=hs.inj i i' ds ds' q2 q2' e;subst this;exact hone q1 q1'
 .rcases hat hp with ⟨t,y,rfl,q1,e,q2⟩|⟨k,i,j,y,rfl,q0,q1,e,q2⟩
  .have hy:=Eh e.symm;subst hy;obtain⟨ad,kk,r1,r2,r3⟩:=hs.own _ _ _ q1;refine⟨ad,kk,r1,r2,?_⟩;rcases r3 with r3|⟨B,hB,r4,r5⟩
   .exact .inl r3
   .exact .inr ⟨B,by rw[hclS];exact hB,r4,r5.lt,r5.cells,by rw[hM];exact r5.free,r5.mine⟩
  .have hy:=Eh e.symm;subst hy;obtain⟨ad,kk,r1,r2,r3⟩:=hs.own _ _ _ q1;refine⟨ad,kk,by rw[hval j q0];exact r1,r2,?_⟩
   rcases r3 with r3|⟨B,hB,r4,r5⟩
   .exact .inl r3
   .exact .inr ⟨B,by rw[hclB j q0];exact hB,r4,r5.lt,r5.cells,by rw[hM];exact r5.free,r5.mine⟩
 .rcases hcl2 hp with ⟨t,rfl,q1⟩|⟨k,i,j,rfl,q0,q1⟩<;>rcases hcl2 hq with ⟨t',rfl,q1'⟩|⟨k',i',j',rfl,q0',q1'⟩
  .exact hs.clinj _ _ B q1 q1'
  .have:=hs.clinj _ _ B q1 q1';cases this
  .have:=hs.clinj _ _ B q1 q1';cases this
  .have:=hs.clinj _ _ B q1 q1';cases this;have:=hone q0 q0';subst this;rfl
 .obtain ⟨i,ds,q1,q2,_,_⟩:=hcells hk;rw[hσ q1];rcases hcl2 hp with ⟨t,rfl,q⟩|⟨k',i',j,rfl,q0,q⟩
  .exact hs.clbox _ B q i ds q2
  .exact hs.clbox _ B q i ds q2
 .rcases hcl2 hp with ⟨t,rfl,q⟩|⟨k',i',j,rfl,q0,q⟩
  .exact hs.cllt _ B q
  .exact hs.cllt _ B q
 .have hlt:b<is.length:=by omega
  have hsg:=hs.sig b hb;rw[hG2];simp only
  cases hk:is[b]? with
  |none=>exact hsg
  |some o=>
   cases o with
   |none=>exact hsg
   |some i=>
    have:=pF h2 hk (by omega)
    rw[ZI] at this;subst this;exact hsg
 .refine ⟨λB o hsp=>?_,λk x hk=>?_,λk k' x x' hk hk' e=>?_,hs.sp.ds,λk x hk j B o hj=>by
   obtain⟨i,q1,q2,_,_⟩:=hloops hk;obtain⟨r1,r2,r3⟩:=hs.sp.rows i x q2 j B o hj;exact⟨r1,by rw[hclB j q1];exact r2,by rw[hM];exact r3⟩⟩
  .rcases hsp with ⟨k,x,hk,e,ho⟩|hm
   .obtain ⟨i,q1,q2,_,_⟩:=hloops hk;rw[hσ q1] at e;obtain⟨r1,r2,r3⟩:=hs.sp.ob B o (.inl ⟨i,x,q2,e,ho⟩);refine⟨r1,λp hp=>?_,r3⟩;rcases hcl2 hp with ⟨t,rfl,q⟩|⟨k',i',j,rfl,q0,q⟩<;>exact r2 _ q
   .obtain ⟨r1,r2,r3⟩:=hs.sp.ob B o (.inr hm);refine⟨r1,λp hp=>?_,r3⟩;rcases hcl2 hp with ⟨t,rfl,q⟩|⟨k',i',j,rfl,q0,q⟩<;>exact r2 _ q
  .obtain ⟨i,q1,q2,q3,q4⟩:=hloops hk;exact⟨q4 _,by omega,λc hc=>by omega⟩
  .obtain ⟨i,q1,q2,_,_⟩:=hloops hk;obtain⟨i',q1',q2',_,_⟩:=hloops hk';rw[hσ q1,hσ q1'] at e;have:=hs.sp.inj i i' x x' q2 q2' e;subst this;exact hone q1 q1'
theorem aq.lay{s t:St}(is:List (Option Nat))(hb:okO (inO is) s.bs is=true)(h:(⟨rnE (kJ is) s.env,ky (kJ is) s.bs is,s.lo⟩:St).fo true λs'=>aq s' t)(h1:uX is=true:=by rfl)(h2:Db s.lo 0 is=true:=by rfl)(h3:ltO s.bs.length is=true:=by rfl)(h4:Nat.ble s.lo is.length=true:=by rfl)(he:atE (inO is) s.env=true:=by rfl):aq s t:=by
 rw[St.dR] at h;exact⟨(aG.lay s is h1 h2 h3 h4 he hb).trans h.out⟩
section
variable{α:Type}{f:α->AV}{z:Nat}
theorem B3.one(hp:Plain f z)(hk:∀x,a8 (f x)=true/\(f x).flat=true){e:List (Nat×AV)}{bs:List Box}{lo:Nat}{x:α}{v:AV}{K:AV->St->Prop}(hv:v=f x)(h:K (.bsl bs.length 1 1) ⟨e,bs++[bh f z 1 [x]],lo⟩):B3 z [v] ⟨e,bs,lo⟩ K:=by
 subst hv;refine⟨.inl ⟨hp.pos,λv hv=>?_⟩,?_⟩
 .rw [zp] at hv;subst hv;exact⟨hk x,hp.sz x⟩
 .simpa [bh] using h
end
theorem B3.mpt{e:List (Nat×AV)}{bs:List Box}{lo c:Nat}{v:AV}{K:AV->St->Prop}(hv:v=.mpt c)(h:K (.bsl bs.length 1 1) ⟨e,bs++[bh AV.mpt 1 1 [c]],lo⟩):B3 1 [v] ⟨e,bs,lo⟩ K:=by
 subst hv;exact⟨.inr ⟨rfl,c,rfl⟩,by simpa[bh,cellsOf,AV.cells] using h⟩
theorem iS{b:ByteArray}{n:Int}{K:Int->Prop}{y:UInt8}(k:K y.toNat)(h:b[n.toNat]? =some y:=by assumption)(h0:0<=n:=by omega):CP b n K:=⟨y,⟨h0,h⟩,k⟩
theorem gIs{b:ByteArray}{n:Int}{K:Int->Prop}(h:CP b n K):CP b n K:=h
theorem oko{p:Prop}(h:p:=by repeat' (first|exact rfl|exact atB_row plainN _ _|exact atB_row plainPr _ _|exact atB_row plainTmA _ _|exact atB_row plainMsA _ _|refine okO_cons ?_ ?_|refine okO_none ?_|refine allB_cons ?_ ?_)):p:=h
end Go.AM
namespace Go.AM
open Go.CK Go.RowKit
section
variable{P:Program}
end
section
variable{P:Program}{nt:Nat}{fl:Bool}{ops:Array Oper}{E:Entry}{rd:Option Nat}{n:Nat}
end
end Go.AM
