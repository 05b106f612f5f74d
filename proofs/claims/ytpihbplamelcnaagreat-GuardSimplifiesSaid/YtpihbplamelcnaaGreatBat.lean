/-
  Texts of this aZ joined (wip/gen/bundle.py),those declarations only that are needed:AmLy AmSk Cmp. By an AI agent.
-/
import Derived.Test.YtpihbplamelcnaaGreatBas
set_option linter.unusedSimpArgs false
set_option linter.unusedVariables false
namespace Go.AM
open Go.CK Go.RowKit
def ixO:List (Option Nat)->Nat->Nat->Option Nat
 |[],_,_=>none
 |none::l,b,k=>ixO l b (k+1)
 |some i::l,b,k=>match Nat.beq i b with
  |true=>some k
  |false=>ixO l b (k+1)
theorem wU:∀{l:List (Option Nat)} {b k q:Nat},ixO l b k=some q->k<=q/\l[q-k]? =some (some b)
 |none::l,b,k,q,h=>by
  obtain⟨h1,h2⟩:=wU (l:=l) (k:=k+1) h;refine⟨by omega,?_⟩
  rw[show q-k=(q-(k+1))+1 by omega]
  simpa using h2
 |some i::l,b,k,q,h=>by
  simp only[ixO] at h;split at h
  .rename_i hb;cases h;have:=zO hb;subst this;simp
  .obtain ⟨h1,h2⟩:=wU h;refine⟨by omega,?_⟩
   rw[show q-k=(q-(k+1))+1 by omega]
   simpa using h2
def inO(l:List (Option Nat))(b:Nat):Bool:=match ixO l b 0 with
 |some _=>true
 |none=>false
def jw(l:List (Option Nat))(b:Nat):Nat:=match ixO l b 0 with
 |some k=>k
 |none=>0
def j0(f:Nat->Nat)(bs:List Box):List (Option Nat)->List Box
 |[]=>[]
 |none::l=>.dead::j0 f bs l
 |some i::l=>rnB f (kA bs i)::j0 f bs l
theorem xw(f:Nat->Nat)(bs:List Box):∀(l:List (Option Nat)) (k:Nat),(j0 f bs l)[k]? =(l[k]?).map λo=>match o with|some i=>rnB f (kA bs i)|none=>.dead
 |[],k=>by simp[j0]
 |none::l,0=>by simp[j0]
 |some i::l,0=>by simp[j0]
 |none::l,k+1=>by simp[j0,xw f bs l k]
 |some i::l,k+1=>by simp[j0,xw f bs l k]
theorem oV(f:Nat->Nat)(bs:List Box):∀l:List (Option Nat),(j0 f bs l).length=l.length
 |[]=>rfl
 |none::l=>by simp[j0,oV f bs l]
 |some i::l=>by simp[j0,oV f bs l]
def rnE(f:Nat->Nat):List (Nat×AV)->List (Nat×AV)
 |[]=>[]
 |(t,x)::e=>(t,x.rn f)::rnE f e
theorem HG(f:Nat->Nat):∀(e:List (Nat×AV)) (t:Nat),aq (rnE f e) t=(aq e t).map (AV.rn f)
 |[],t=>rfl
 |(k,x)::e,t=>by
  simp only[rnE,aq]
  cases Nat.beq k t with
  |true=>rfl
  |false=>exact HG f e t
def atE(p:Nat->Bool):List (Nat×AV)->Bool
 |[]=>true
 |(_,x)::e=>x.atp p&&atE p e
theorem IG{p:Nat->Bool}:∀{e:List (Nat×AV)} {t:Nat} {x:AV},atE p e=true->aq e t=some x->x.atp p=true
 |(k,y)::e,t,x,h,hg=>by
  simp only[atE,zD] at h;simp only[aq] at hg;split at hg
  .cases hg;exact h.1
  .exact IG h.2 hg
 |[],_,_,_,hg=>by cases hg
def pZ:List (Option Nat)->Bool
 |[]=>true
 |none::l=>pZ l
 |some i::l=>(match ixO l i 0 with|some _=>false|none=>true)&&pZ l
def Ey(n:Nat):Nat->List (Option Nat)->Bool
 |_,[]=>true
 |b,none::l=>Ey n (b+1) l
 |b,some i::l=>(Nat.ble n b||Nat.beq i b)&&Ey n (b+1) l
def ltO(N:Nat):List (Option Nat)->Bool
 |[]=>true
 |none::l=>ltO N l
 |some i::l=>Nat.blt i N&&ltO N l
theorem wV:∀{l:List (Option Nat)} {b k:Nat},ixO l b k=none->some b∉l
 |none::l,b,k,h,hm=>by
  rcases zI.1 hm with hm|hm
  .cases hm
  .exact wV (l:=l) h hm
 |some i::l,b,k,h,hm=>by
  simp only[ixO] at h;split at h
  .cases h
  .rename_i hb;rcases zI.1 hm with hm|hm
   .cases hm;simp at hb
   .exact wV h hm
 |[],_,_,_,hm=>by cases hm
theorem mV:∀{l:List (Option Nat)},pZ l=true->∀{k k' i:Nat},l[k]? =some (some i)->l[k']? =some (some i)->k=k'
 |none::l,h,0,k',i,h1,h2=>by simp at h1
 |none::l,h,k+1,0,i,h1,h2=>by simp at h2
 |none::l,h,k+1,k'+1,i,h1,h2=>by
  have:=mV (l:=l) h (k:=k) (k':=k') (i:=i) (by simpa using h1) (by simpa using h2)
  rw[this]
 |some j::l,h,k,k',i,h1,h2=>by
  simp only[pZ,zD] at h
  have hno:some j∉l:=by
   have:=h.1;split at this
   .cases this
   .rename_i hn;exact wV hn
  cases k with
  |zero=>
   simp at h1;subst h1
   cases k' with
   |zero=>rfl
   |succ k'=>exact absurd (zE (by simpa using h2)) hno
  |succ k=>
   cases k' with
   |zero=>simp at h2;subst h2;exact absurd (zE (by simpa using h1)) hno
   |succ k'=>
    have:=mV h.2 (k:=k) (k':=k') (i:=i) (by simpa using h1) (by simpa using h2)
    rw[this]
 |[],_,k,k',i,h1,_=>by simp at h1
theorem tA{n:Nat}:∀{l:List (Option Nat)} {c k i:Nat},Ey n c l=true->l[k]? =some (some i)->c+k<n->i=c+k
 |none::l,c,0,i,h,h1,hlt=>by simp at h1
 |none::l,c,k+1,i,h,h1,hlt=>by
  have:=tA (l:=l) (c:=c+1) (k:=k) (i:=i) h (by simpa using h1) (by omega)
  omega
 |some j::l,c,k,i,h,h1,hlt=>by
  simp only[Ey,zD,ZN] at h
  cases k with
  |zero=>
   simp at h1;subst h1;rcases h.1 with h|h
   .have:=zr h;omega
   .exact zO h
  |succ k=>
   have:=tA (c:=c+1) (k:=k) (i:=i) h.2 (by simpa using h1) (by omega)
   omega
 |[],c,k,i,_,h1,_=>by simp at h1
theorem si{N:Nat}:∀{l:List (Option Nat)} {k i:Nat},ltO N l=true->l[k]? =some (some i)->i<N
 |none::l,0,i,h,h1=>by simp at h1
 |none::l,k+1,i,h,h1=>si (l:=l) (k:=k) h (by simpa using h1)
 |some j::l,k,i,h,h1=>by
  simp only[ltO,zD] at h
  cases k with
  |zero=>simp at h1;subst h1;simpa[Nat.blt_eq] using h.1
  |succ k=>exact si h.2 (by simpa using h1)
 |[],k,i,_,h1=>by simp at h1
def okO(p:Nat->Bool)(bs:List Box):List (Option Nat)->Bool
 |[]=>true
 |none::l=>okO p bs l
 |some i::l=>atB p (kA bs i)&&okO p bs l
theorem r8{p:Nat->Bool}{bs:List Box}:∀{l:List (Option Nat)} {k i:Nat},okO p bs l=true->l[k]? =some (some i)->atB p (kA bs i)=true
 |none::l,0,i,h,h1=>by simp at h1
 |none::l,k+1,i,h,h1=>r8 (l:=l) (k:=k) h (by simpa using h1)
 |some j::l,k,i,h,h1=>by
  simp only[okO,zD] at h
  cases k with
  |zero=>simp at h1;subst h1;exact h.1
  |succ k=>exact r8 h.2 (by simpa using h1)
 |[],k,i,_,h1=>by simp at h1
theorem aE.lay(s:St)(is:List (Option Nat))(h1:pZ is=true)(h2:Ey s.lo 0 is=true)(h3:ltO s.bs.length is=true)(h4:Nat.ble s.lo is.length=true)(he:atE (inO is) s.env=true)(hb:okO (inO is) s.bs is=true):
  aE s ⟨rnE (jw is) s.env,j0 (jw is) s.bs is,s.lo⟩:=λE G a w hs=>by
 obtain⟨env,bs,lo⟩:=s;simp only at h2 h3 h4 he hb|-;have h4:=zr h4;have hlo:lo=E.nb:=hs.lo;have hcl:(j0 (jw is) bs is).length=is.length:=oV _ _ _
 have hcb:∀{k:Nat} {y:Box},(j0 (jw is) bs is)[k]? =some y->(is[k]? =some none/\y=.dead)\/∃i x,is[k]? =some (some i)/\bs[i]? =some x/\y=rnB (jw is) x/\atB (inO is) x=true:=λ{k y} hy=>by
  rw[xw] at hy
  cases hk:is[k]? with
  |none=>rw[hk] at hy;cases hy
  |some o=>
   rw[hk] at hy
   cases o with
   |none=>simp at hy;exact .inl ⟨rfl,hy.symm⟩
   |some i=>
    have hlt:=si h3 hk;have hx:bs[i]? =some bs[i]:=zA hlt;have hat:=r8 hb hk;rw[mf hx] at hat;simp only[zM,zN,mf hx] at hy;exact .inr ⟨i,_,rfl,hx,hy.symm,hat⟩
 obtain⟨G2,hG2⟩:∃G2:Gh,G2=⟨G.M,λb=>match is[b]? with|some (some i)=>G.σ i|_=>G.σ b,λp=>match p with|.sl t=>G.cl (.sl t)|.bx b j=>match is[b]? with|some (some i)=>G.cl (.bx i j)|_=>none⟩:=⟨_,rfl⟩;have hM:G2.M=G.M:=by rw[hG2]
 have hσ:∀{k i:Nat},is[k]? =some (some i)->G2.σ k=G.σ i:=λ{k i} hk=>by rw[hG2];simp only[hk]
 have hclS:∀t,G2.cl (.sl t)=G.cl (.sl t):=λt=>by rw[hG2]
 have hclB:∀{k i:Nat} (j:Nat),is[k]? =some (some i)->G2.cl (.bx k j)=G.cl (.bx i j):=λ{k i} j hk=>by rw[hG2];simp only[hk]
 have hcl2:∀{p:Pl} {B:Nat},G2.cl p=some B->(∃t,p=.sl t/\G.cl (.sl t)=some B)\/∃k i j,p=.bx k j/\is[k]? =some (some i)/\G.cl (.bx i j)=some B:=λ{p B} hp=>by
  cases p with
  |sl t=>exact .inl ⟨t,rfl,by rw[<-hclS];exact hp⟩
  |bx k j=>
   rw[hG2] at hp;simp only at hp;split at hp
   .rename_i i hk;exact .inr ⟨k,i,j,rfl,hk,hp⟩
   .cases hp
 have hcells:∀{k:Nat} {cs:List AV},ab (j0 (jw is) bs is) k=some cs->∃i ds,is[k]? =some (some i)/\ab bs i=some ds/\cs=ds.map (AV.rn (jw is))/\∀c∈ds,c.atp (inO is)=true:=λ{k cs} hc=>by
  unfold ab at hc;split at hc
  .rename_i y hy;rcases hcb hy with ⟨_,rfl⟩|⟨i,x,q1,q2,rfl,q4⟩
   .cases hc
   .rw [Gf _ q4] at hc
    cases hx:x.cs? with
    |none=>rw[hx] at hc;cases hc
    |some ds=>
     rw[hx] at hc;simp only[zM,zN] at hc;exact⟨i,ds,q1,by simp only[ab,q2,hx],hc.symm,tP q4 hx⟩
  .cases hc
 have hloops:∀{k:Nat} {x:LB},ag (j0 (jw is) bs is) k=some x->∃i,is[k]? =some (some i)/\ag bs i=some x/\x.n=0/\∀M:Hp,x.M.le M:=λ{k x} hc=>by
  unfold ag at hc;split at hc
  .rename_i y hy;rcases hcb hy with ⟨_,rfl⟩|⟨i,z,q1,q2,rfl,q4⟩
   .cases hc
   .rw [Ge] at hc;exact⟨i,q1,by simp only[ag,q2,hc],Hg q4 hc⟩
  .cases hc
 have hone:=λ{k k' i:Nat}=>mV h1 (k:=k) (k':=k') (i:=i)
 have toR:∀{x:AV} {v:Value},RV G.M G.σ bs.length x v->x.atp (inO is)=true->RV G2.M G2.σ (j0 (jw is) bs is).length (x.rn (jw is)) v:=λ{x v} hx hp=>by
  rw[hM];refine hx.rn (λb hb _=>?_) hp;unfold inO at hb
  cases hq:ixO is b 0 with
  |none=>rw[hq] at hb;cases hb
  |some k=>
   obtain⟨_,q1⟩:=wU hq;rw[yN] at q1;have hr:jw is b=k:=by unfold jw;rw[hq]
   rw[hr,hσ q1,hcl];exact⟨rfl,(zB.1 q1).1⟩
 have hat:∀{p:Pl} {x:AV},(⟨rnE (jw is) env,j0 (jw is) bs is,lo⟩:St).at p=some x->(∃t y,p=.sl t/\(⟨env,bs,lo⟩:St).at (.sl t)=some y/\x=y.rn (jw is)/\y.atp (inO is)=true)\/(∃k i j y,p=.bx k j/\is[k]? =some (some i)/\(⟨env,bs,lo⟩:St).at (.bx i j)=some y/\x=y.rn (jw is)/\y.atp (inO is)=true):=λ{p x} hp=>by
  cases p with
  |sl t=>
   simp only[St.at,HG] at hp
   cases hq:aq env t with
   |none=>rw[hq] at hp;cases hp
   |some y=>
    rw[hq] at hp;simp only[zM,zN] at hp
    exact .inl ⟨t,y,rfl,hq,hp.symm,IG he hq⟩
  |bx k j=>
   simp only[St.at] at hp
   cases hbk:ab (j0 (jw is) bs is) k with
   |none=>rw[hbk] at hp;cases hp
   |some cs=>
    obtain⟨i,ds,q1,q2,q3,q4⟩:=hcells hbk;rw[hbk,q3] at hp;simp only[ZG,ZF] at hp
    cases hj:ds[j]? with
    |none=>rw[hj] at hp;cases hp
    |some y=>
     rw[hj] at hp;simp only[zM,zN] at hp;exact .inr ⟨k,i,j,y,rfl,q1,by simp only[St.at,q2,ZG,hj],hp.symm,q4 y (zE hj)⟩
 have hval:∀{k i:Nat} (j:Nat),is[k]? =some (some i)->au G2.σ a w (.bx k j)=au G.σ a w (.bx i j):=λ{k i} j hk=>by simp only[au,hσ hk]
 refine⟨G2,by rw[hM];exact hs.fr,by rw[hM];exact hs.ok,hs.nt,λp x hp=>?_,λk j x hp=>?_,λk cs hk=>?_,λk cs hk=>?_,λk k' cs cs' hk hk' e=>?_,λp z l hp=>?_,λp q B hp hq=>?_,λp B hp k cs hk=>?_,λp B hp=>?_,hs.lo,by show E.nb<=_;rw[hcl];omega,λb hb=>?_,?_⟩
 .rcases hat hp with ⟨t,y,rfl,q1,rfl,q2⟩|⟨k,i,j,y,rfl,q0,q1,rfl,q2⟩
  .show RV G2.M G2.σ _ _ (au G2.σ a w (.sl t));rw[oe];exact toR (hs.val _ _ q1) (by rw[mh];exact q2)
  .show RV G2.M G2.σ _ _ (au G2.σ a w (.bx k j));rw[oe,hval j q0];exact toR (hs.val _ _ q1) (by rw[mh];exact q2)
 .rcases hat hp with ⟨t,y,e,_⟩|⟨k',i,j',y,e,q0,q1,rfl,q2⟩
  .cases e
  .cases e;rw[hval _ q0];exact hs.one _ _ _ q1
 .obtain ⟨i,ds,q1,q2,rfl,_⟩:=hcells hk;rw[hσ q1,zF];exact hs.box i ds q2
 .obtain ⟨i,ds,q1,q2,rfl,_⟩:=hcells hk;rw[hσ q1,hM];exact hs.bmem i ds q2
 .obtain ⟨i,ds,q1,q2,_,_⟩:=hcells hk;obtain⟨i',ds',q1',q2',_,_⟩:=hcells hk';rw[hσ q1,hσ q1'] at e;have:=hs.inj i i' ds ds' q2 q2' e;subst this;exact hone q1 q1'
 .rcases hat hp with ⟨t,y,rfl,q1,e,q2⟩|⟨k,i,j,y,rfl,q0,q1,e,q2⟩
  .have hy:=vH e.symm;subst hy;obtain⟨ad,kk,r1,r2,r3⟩:=hs.own _ _ _ q1;refine⟨ad,kk,r1,r2,?_⟩;rcases r3 with r3|⟨B,hB,r4,r5⟩
   .exact .inl r3
   .exact .inr ⟨B,by rw[hclS];exact hB,r4,r5.lt,r5.cells,by rw[hM];exact r5.free,r5.mine⟩
  .have hy:=vH e.symm;subst hy;obtain⟨ad,kk,r1,r2,r3⟩:=hs.own _ _ _ q1;refine⟨ad,kk,by rw[hval j q0];exact r1,r2,?_⟩
   rcases r3 with r3|⟨B,hB,r4,r5⟩
   .exact .inl r3
   .exact .inr ⟨B,by rw[hclB j q0];exact hB,r4,r5.lt,r5.cells,by rw[hM];exact r5.free,r5.mine⟩
 .rcases hcl2 hp with ⟨t,rfl,q1⟩|⟨k,i,j,rfl,q0,q1⟩<;>rcases hcl2 hq with ⟨t',rfl,q1'⟩|⟨k',i',j',rfl,q0',q1'⟩
  .exact hs.clinj _ _ B q1 q1'
  .have:=hs.clinj _ _ B q1 q1';cases this
  .have:=hs.clinj _ _ B q1 q1';cases this
  .have:=hs.clinj _ _ B q1 q1';cases this;have:=hone q0 q0';subst this;rfl
 .obtain ⟨i,ds,q1,q2,_,_⟩:=hcells hk;rw[hσ q1];rcases hcl2 hp with ⟨t,rfl,q⟩|⟨k',i',j,rfl,q0,q⟩
  .exact hs.clbox _ B q i ds q2
  .exact hs.clbox _ B q i ds q2
 .rcases hcl2 hp with ⟨t,rfl,q⟩|⟨k',i',j,rfl,q0,q⟩
  .exact hs.cllt _ B q
  .exact hs.cllt _ B q
 .have hlt:b<is.length:=by omega
  have hsg:=hs.sig b hb;rw[hG2];simp only
  cases hk:is[b]? with
  |none=>exact hsg
  |some o=>
   cases o with
   |none=>exact hsg
   |some i=>
    have:=tA h2 hk (by omega)
    rw[ZI] at this;subst this;exact hsg
 .refine ⟨λB o hsp=>?_,λk x hk=>?_,λk k' x x' hk hk' e=>?_,hs.sp.ds⟩
  .rcases hsp with ⟨k,x,hk,e,ho⟩|hm
   .obtain ⟨i,q1,q2,_,_⟩:=hloops hk;rw[hσ q1] at e;obtain⟨r1,r2,r3⟩:=hs.sp.ob B o (.inl ⟨i,x,q2,e,ho⟩);refine⟨r1,λp hp=>?_,r3⟩;rcases hcl2 hp with ⟨t,rfl,q⟩|⟨k',i',j,rfl,q0,q⟩<;>exact r2 _ q
   .obtain ⟨r1,r2,r3⟩:=hs.sp.ob B o (.inr hm);refine⟨r1,λp hp=>?_,r3⟩;rcases hcl2 hp with ⟨t,rfl,q⟩|⟨k',i',j,rfl,q0,q⟩<;>exact r2 _ q
  .obtain ⟨i,q1,q2,q3,q4⟩:=hloops hk;exact⟨q4 _,by omega,λc hc=>by omega⟩
  .obtain ⟨i,q1,q2,_,_⟩:=hloops hk;obtain⟨i',q1',q2',_,_⟩:=hloops hk';rw[hσ q1,hσ q1'] at e;have:=hs.sp.inj i i' x x' q2 q2' e;subst this;exact hone q1 q1'
theorem KT{p:Nat->Bool}{bs:List Box}{i:Nat}{l:List (Option Nat)}(h:atB p (kA bs i)=true)(k:okO p bs l=true):okO p bs (some i::l)=true:=by simp only[okO,h,k,Bool.and_self]
theorem vc{α:Type}{f:α->AV}{z:Nat}(hp:Plain f z){p:Nat->Bool}(k:Nat)(l:List α):atB p (aS f z k l)=true:=by
 simp only[aS,atB,zS];intro c hc;rcases zY.1 hc with hc|hc
 .exact (hp.mem hc).2
 .rw [(Zc.1 hc).2];rfl
theorem JR{p:Nat->Bool}{x:Box}{l:List Box}(h:atB p x=true)(k:Aj p l=true):Aj p (x::l)=true:=by simp only[Aj,h,k,Bool.and_self]
theorem ah.lay{s t:St}(is:List (Option Nat))(hb:okO (inO is) s.bs is=true)(h:(⟨rnE (jw is) s.env,j0 (jw is) s.bs is,s.lo⟩:St).fo true λs'=>ah s' t)(h1:pZ is=true:=by rfl)(h2:Ey s.lo 0 is=true:=by rfl)(h3:ltO s.bs.length is=true:=by rfl)(h4:Nat.ble s.lo is.length=true:=by rfl)(he:atE (inO is) s.env=true:=by rfl):ah s t:=by
 rw[St.c7] at h;exact⟨(aE.lay s is h1 h2 h3 h4 he hb).trans h.out⟩
theorem ae.lay{s:St}{rs:List cL}{Q:AV->List Box->Prop}(is:List (Option Nat))(hb:okO (inO is) s.bs is=true)(h:(⟨rnE (jw is) s.env,j0 (jw is) s.bs is,s.lo⟩:St).fo true λs'=>ae s' rs Q)(h1:pZ is=true:=by rfl)(h2:Ey s.lo 0 is=true:=by rfl)(h3:ltO s.bs.length is=true:=by rfl)(h4:Nat.ble s.lo is.length=true:=by rfl)(he:atE (inO is) s.env=true:=by rfl):ae s rs Q:=by
 rw[St.c7] at h;obtain⟨s',q1,q2⟩:=h.out;exact⟨s',(aE.lay s is h1 h2 h3 h4 he hb).trans q1,q2⟩
theorem ae.wk{s s':St}{rs:List cL}{Q:AV->List Box->Prop}(hw:aE s s')(h:ae s' rs Q):ae s rs Q:=by
 obtain⟨s2,q1,q2⟩:=h.out;exact⟨s2,hw.trans q1,q2⟩
theorem aa.at{P:Program}{f:FuncId}{vals raw vals0:List AV}{bs bs0:List Box}{Q:AV->List Box->Prop}{K:AV->List Box->Prop}(is:List Nat)(h:Sem P f vals0 bs0 Q)(hv0:raw.map (AV.rn (rho is))=vals0)(hb0:cut is bs is=bs0)
  (hQ:∀r bs',Q r bs'->Nat.ble is.length bs'.length=true/\r.atp (λb=>decide (b<bs'.length))=true/\Aj (λb=>decide (b<bs'.length)) bs'=true)
  (hb:okO (uP is) bs (is.map some)=true) (hK:∀r bs',Q r bs'->K (r.rn (pie is bs.length)) (back is bs bs'))
  (hnd:pZ (is.map some)=true:=by rfl) (hin:ltO bs.length (is.map some)=true:=by rfl) (hv:raw.all (AV.atp (uP is))=true:=by rfl):aa P f vals raw bs K:=by
 subst hv0 hb0;have hget:∀{k i:Nat},is[k]? =some i->(is.map some)[k]? =some (some i):=λ{k i} h=>by rw[ZF,h];rfl
 refine .raw (Sem.ren is ?_ (λi hi=>?_) (by simpa using hv) (λi hi=>?_) (h.mono λr bs' hq=>⟨?_,hq⟩)) ?_
 .refine List.pairwise_iff_getElem.2 λi j hi hj hij e=>?_;have:=mV hnd (hget (zA hi)) (hget (k:=j) (i:=is[i]) (by rw[zA hj,e]))
  omega
 .obtain ⟨k,hk⟩:=ZS hi;exact si hin (hget hk)
 .obtain ⟨k,hk⟩:=ZS hi;exact r8 hb (hget hk)
 .obtain ⟨q1,q2,q3⟩:=hQ r bs' hq;exact⟨zr q1,q2,q3⟩
 .rintro r bs' ⟨r0,bs2,hq,rfl,rfl⟩;exact hK r0 bs2 hq
section
variable{α:Type}{f:α->AV}{z:Nat}
theorem qj(hp:Plain f z){bs:List Box}{b k i:Nat}{l:List α}{x:α}(hb:bs[b]? =some (aS f z k l))(hx:l[i]? =some x):ab bs b=some (cellsOf (l.map f)++List.replicate ((k-l.length)*z) AV.top):=by
 refine cM (fG hb) λe=>?_;have:=congrArg List.length e;rw[zC,hp.len,ZQ] at this;have hi:=(zB.1 hx).1;have:=hp.pos;have h2:0<l.length*z:=Nat.mul_pos (by omega) hp.pos
 omega
theorem od(hp:Plain f z){k i off:Nat}{l:List α}{x:α}(hx:l[i]? =some x)(ho:off<z):(cellsOf (l.map f)++List.replicate ((k-l.length)*z) AV.top)[i*z+off]? =(f x).cells[off]?:=by
 obtain⟨hi,rfl⟩:=zB.1 hx
 have hlt:i*z+off<(cellsOf (l.map f)).length:=by
  rw[hp.len];have:(i+1)*z<=l.length*z:=ZE _ hi;rw[ZM,yZ] at this;omega
 rw[zK hlt,kv (z:=z) (λy hy=>by obtain⟨x,_,rfl⟩:=zk.1 hy;exact hp.sz x) i (by simpa using hi) off ho]
 simp
theorem ElN.cell(hp:Plain f z){e:List (Nat×AV)}{bs:List Box}{lo b k i off:Nat}{l:List α}{x:α}{c:AV}{K:AV->Prop}(hb:bs[b]? =some (aS f z k l))(hx:l[i]? =some x)(hc:(f x).cells[off]? =some c)(h:K c):ElN false 1 ⟨e,bs,lo⟩ (.elp b i z off) K:=by
 refine⟨?_⟩;have ho:off<z:=by rw[<-hp.sz x];exact(zB.1 hc).1
 have hg:=(od (k:=k) hp hx ho).trans hc;obtain⟨hlt,he⟩:=zB.1 hg;simp only[St.rd,qj hp hb hx];rw[zH hlt,he];simp only[zP,b9,hp.de x c (zE hc)];cases c<;>first|exact h|skip
theorem ElN.elem(hp:Plain f z){e:List (Nat×AV)}{bs:List Box}{lo b k i:Nat}{l:List α}{x:α}{K:AV->Prop}(hb:bs[b]? =some (aS f z k l))(hx:l[i]? =some x)(h:K (.agg (f x).cells)):ElN true z ⟨e,bs,lo⟩ (.elp b i z 0) K:=by
 refine⟨?_⟩;simp only[St.rd,qj hp hb hx,Zk];have hi:=(zB.1 hx).1
 have hlen:i*z+z<=(cellsOf (l.map f)++List.replicate ((k-l.length)*z) AV.top).length:=by
  rw[zC,hp.len];have:(i+1)*z<=l.length*z:=ZE _ hi;rw[ZM,yZ] at this;omega
 simp only[b9];refine af.2 ⟨by rw[Nat.ble_eq];simp only[zF,Zh];omega,?_⟩
 have e2:(((cellsOf (l.map f)++List.replicate ((k-l.length)*z) AV.top).drop (i*z)).map AV.aG).take z=(f x).cells:=by
  apply Zv;intro j
  by_cases hj:j<z
  .rw [List.getElem?_take_of_lt hj,ZF,List.getElem?_drop,od hp hx hj]
   cases hc:(f x).cells[j]? with
   |none=>rfl
   |some c=>simp only[zM];rw[hp.de x c (zE hc)]
  .rw [zR (by simp;omega),zR (by rw[hp.sz];omega)]
 rw[e2];exact h
theorem EsN.elem(hp:Plain f z)(hk:∀x,ba (f x)=true){e:List (Nat×AV)}{bs:List Box}{lo b k i:Nat}{l:List α}{x y:α}{v:AV}{K:St->Prop}(hb:bs[b]? =some (aS f z k l))(hx:l[i]? =some x)(hv:v=f y)(h:K ⟨e,bs.set b (aS f z k (l.set i y)),lo⟩):EsN z ⟨e,bs,lo⟩ b i z 0 v K:=by
 subst hv;refine⟨?_⟩;simp only[mr,qj hp hb hx,Zk];have hi:=(zB.1 hx).1;have hmul:(i+1)*z<=l.length*z:=ZE _ hi;rw[ZM,yZ] at hmul;refine⟨⟨hk y,hp.sz y,hp.pos,by rw[zC,hp.len];omega⟩,?_⟩
 have he:setAt (cellsOf (l.map f)++List.replicate ((k-l.length)*z) AV.top) (i*z) (f y).cells=cellsOf ((l.set i y).map f)++List.replicate ((k-(l.set i y).length)*z) AV.top:=by
  apply Zv;intro j;rw[pk];have hl1:(cellsOf (l.map f)++List.replicate ((k-l.length)*z) AV.top).length=l.length*z+(k-l.length)*z:=by rw[zC,hp.len,zf]
  have hl2:(cellsOf ((l.set i y).map f)).length=l.length*z:=by rw[hp.len,zm]
  have hl3:(cellsOf (l.map f)).length=l.length*z:=hp.len l;have hset:(l.set i y)[i]? =some y:=by simp[hi]
  by_cases hj:j<l.length*z
  .have hq:j/z<l.length:=(yA hp.pos).2 hj;have hr:j %z<z:=yg _ hp.pos;have hjj:j/z*z+j %z=j:=by have:=yT j z;rw[yc] at this;exact this
   by_cases hij:j/z=i
   .have hc1:i*z<=j/\j<i*z+(f y).cells.length/\j<(cellsOf (l.map f)++List.replicate ((k-l.length)*z) AV.top).length:=by
     rw[hp.sz,hl1];rw[hij] at hjj;omega
    rw[if_pos hc1];have:=od (k:=k) (off:=j %z) hp hset hr;rw[<-hij,hjj] at this;rw[hij] at this;rw[this];congr 1;rw[hij] at hjj;omega
   .have hc1:¬(i*z<=j/\j<i*z+(f y).cells.length/\j<(cellsOf (l.map f)++List.replicate ((k-l.length)*z) AV.top).length):=by
     rintro⟨q1,q2,_⟩;rw[hp.sz] at q2;apply hij;refine Nat.div_eq_of_lt_le q1 ?_;rw[ZM,yZ];exact q2
    rw[if_neg hc1];have hx2:l[j/z]? =some l[j/z]:=zA hq;have hx3:(l.set i y)[j/z]? =some l[j/z]:=by rw[Zi (λe=>hij e.symm)];exact hx2
    have q1:=od (k:=k) hp hx2 hr;have q2:=od (k:=k) hp hx3 hr;rw[hjj] at q1 q2;rw[q1,q2]
  .have hc1:¬(i*z<=j/\j<i*z+(f y).cells.length/\j<(cellsOf (l.map f)++List.replicate ((k-l.length)*z) AV.top).length):=by
    rintro⟨q1,q2,_⟩;rw[hp.sz] at q2;omega
   rw[if_neg hc1,zZ (by omega),zZ (by omega),hl2,hl3,zm]
 rw[he];exact h
theorem Nw.one(hp:Plain f z)(hk:∀x,ba (f x)=true/\(f x).flat=true){e:List (Nat×AV)}{bs:List Box}{lo:Nat}{x:α}{v:AV}{K:AV->St->Prop}(hv:v=f x)(h:K (.bsl bs.length 1 1) ⟨e,bs++[aS f z 1 [x]],lo⟩):Nw z [v] ⟨e,bs,lo⟩ K:=by
 subst hv;refine⟨⟨hp.pos,λv hv=>?_⟩,?_⟩
 .rw [zp] at hv;subst hv;exact⟨hk x,hp.sz x⟩
 .simpa [aS] using h
end
theorem N4{α:Type}{f:α->AV}{z:Nat}(hp:Plain f z){l:List α}{q j:Nat}{hj:j<(cellsOf (l.map f)++List.replicate q AV.top).length}:((cellsOf (l.map f)++List.replicate q AV.top)[j]).aG=(cellsOf (l.map f)++List.replicate q AV.top)[j]:=by
 rcases zY.1 (zc hj) with h|h
 .exact (hp.mem h).1
 .rw [(Zc.1 h).2];rfl
theorem uz:∀(a b:List AV),cellsOf (a++b)=cellsOf a++cellsOf b
 |[],b=>rfl
 |x::a,b=>by simp only[ze,cellsOf,uz a b,zg]
theorem aE.qk{α:Type}{f:α->AV}{z:Nat}(hp:Plain f z)(s:St)(b n:Nat){k:Nat}{l:List α}(hb:s.bs[b]? =some (aS f z k l))(hn:n<=l.length)(hk:0<k):aE s ⟨s.env,s.bs.set b (aS f z k (l.take n)),s.lo⟩:=λE G a w hs=>by
 have hz:=hp.pos;have hl1:(cellsOf (l.map f)).length=l.length*z:=hp.len l;have hl2:(cellsOf ((l.take n).map f)).length=n*z:=by rw[hp.len,zn,yU hn]
 have hne:cellsOf (l.map f)++List.replicate ((k-l.length)*z) .top≠[]:=λe=>by
  have:=congrArg List.length e;rw[zC,hl1,zf,<-ZM,ZQ] at this;have h2:0<(l.length+(k-l.length))*z:=Nat.mul_pos (by omega) hz
  omega
 have hbc:ab s.bs b=some (cellsOf (l.map f)++List.replicate ((k-l.length)*z) .top):=cM (fG hb) hne;obtain⟨vs,T,hc,hvl⟩:=hs.box b _ hbc;have hlen':(n+(k-n))*z<=(l.length+(k-l.length))*z:=ZE _ (by omega)
 rw[ZM,ZM] at hlen';have hlt:(l.take n).length=n:=by rw[zn,yU hn]
 refine⟨G,hs.My (w':=w) (vs':=vs) (T:=T) hbc hc ?_ ?_ rfl rfl rfl (zG _) (λ_ _ _=>rfl) λj hj v hv=>?_⟩
 .rw [zC,hl2,zf,hlt];rw[zC,hl1,zf] at hvl;omega
 .intro e;have:=congrArg List.length e;rw[zC,hl2,zf,hlt,<-ZM,ZQ] at this;have h2:0<(n+(k-n))*z:=Nat.mul_pos (by omega) hz
  omega
 .rw [zC,hl2,zf,hlt] at hj;have hj2:j<(cellsOf (l.map f)++List.replicate ((k-l.length)*z) AV.top).length:=by rw[zC,hl1,zf];omega
  have hat:s.at (.bx b j)=some ((cellsOf (l.map f)++List.replicate ((k-l.length)*z) AV.top)[j]):=by
   simp only[St.at,hbc,ZG];exact zA hj2
  have hvv:au G.σ a w (.bx b j)=v:=by
   have hjs:j<vs.size:=by omega
   simp only[au,World.cell?,hc];rw[zi hjs] at hv;cases hv;simp[hjs]
  have h1:=hs.one _ _ _ hat;have h2:=hs.val _ _ hat;rw[hvv] at h1 h2;refine⟨h1,?_⟩
  by_cases hjn:j<n*z
  .have e:(cellsOf ((l.take n).map f)++List.replicate ((k-(l.take n).length)*z) AV.top)[j]'(by rw[zC,hl2,zf,hlt];exact hj)=(cellsOf (l.map f)++List.replicate ((k-l.length)*z) AV.top)[j]:=by
    rw[ZH (by omega),ZH (by have:=ZE z hn;omega)]
    have:cellsOf (l.map f)=cellsOf ((l.take n).map f)++cellsOf ((l.drop n).map f):=by rw[<-uz,<-zu,List.take_append_drop]
    simp only[this];rw[ZH (by omega)]
   rw[e];rw[N4 hp] at h2;exact h2
  .have e:(cellsOf ((l.take n).map f)++List.replicate ((k-(l.take n).length)*z) AV.top)[j]'(by rw[zC,hl2,zf,hlt];exact hj)=.top:=by
    rw[ZZ (by omega),yE]
   rw[e];exact .flat (.top v)
theorem ah.qk{α:Type}{f:α->AV}{z:Nat}(hp:Plain f z){s t:St}(b n:Nat){k:Nat}{l:List α}(hb:s.bs[b]? =some (aS f z k l))(hn:n<=l.length)(hk:0<k)(h:ah ⟨s.env,s.bs.set b (aS f z k (l.take n)),s.lo⟩ t):ah s t:=⟨(aE.qk hp s b n hb hn hk).trans h.out⟩
theorem ah.dq{α:Type}{f:α->AV}{z:Nat}(hp:Plain f z){s t:St}(c i:Nat){cs:List AV}{b m k k0:Nat}{l:List α}(h0:s.bs[c]? =some (.cells cs))(hi:cs[i]? =some (.bsl b m k))(hb:s.bs[b]? =some (aS f z k0 l))(hm:m<=l.length)(h:ah ⟨s.env,(s.bs.set b .dead).set c (.cells (cs.set i (.sl .no ((l.take m).map f)))),s.lo⟩ t):ah s t:=⟨(aE.dq hp s c i h0 hi hb hm).trans h.out⟩
theorem gR.done{b:Nat}{n:Int}{s:St}{rs:List cL}{Q:AV->List Box->Prop}{l:List (Int×AV×Nat)}{c:Nat}(hb:s.bs[b]? =some (.mq l c))(h:pM ⟨s.env,s.bs.set b (.mq (ti l n) c),s.lo⟩ rs λr b=>fv (qv r) λx=>Q x b):gR b n s rs Q:=⟨⟨s,aE.refl s,l,c,hb,sY (λr b q=>.inr (by rwa [Bf] at q)) h⟩⟩
theorem gR.wk{b:Nat}{n:Int}{s s':St}{rs:List cL}{Q:AV->List Box->Prop}(hw:aE s s')(h:gR b n s' rs Q):gR b n s rs Q:=by
 obtain⟨⟨s2,q1,q2⟩⟩:=h;exact⟨⟨s2,hw.trans q1,q2⟩⟩
theorem gR.lay{b:Nat}{n:Int}{s:St}{rs:List cL}{Q:AV->List Box->Prop}(is:List (Option Nat))(hb:okO (inO is) s.bs is=true)(h:(⟨rnE (jw is) s.env,j0 (jw is) s.bs is,s.lo⟩:St).fo true λs'=>gR b n s' rs Q)(h1:pZ is=true:=by rfl)(h2:Ey s.lo 0 is=true:=by rfl)(h3:ltO s.bs.length is=true:=by rfl)(h4:Nat.ble s.lo is.length=true:=by rfl)(he:atE (inO is) s.env=true:=by rfl):gR b n s rs Q:=by
 rw[St.c7] at h;exact gR.wk (aE.lay s is h1 h2 h3 h4 he hb) h
def qB(l:List (Int×Nat)):List (Int×AV×Nat):=l.map λe=>(e.1,.bool true,e.2)
theorem Cm:∀(l:List (Int×Nat)) (n:Int),Gn (qB l) n=if n∈l.map (·.1) then some (.bool true) else none
 |[],n=>rfl
 |(k,c)::l,n=>by
  have:=Cm l n;simp only[qB] at this;simp only[qB,zP,Gn,zI]
  by_cases h:n=k
  .rw [if_pos h,if_pos (.inl h)]
  .rw [if_neg h,this]
   by_cases h2:n∈l.map (·.1)
   .rw [if_pos h2,if_pos (.inr h2)]
   .rw [if_neg h2,if_neg (λe=>e.elim h h2)]
theorem rS:∀(l:List (Int×Nat)) (n:Int) (c:Nat),n∉l.map (·.1)->qp (qB l) n (.bool true) c=qB (l++[(n,c)])
 |[],n,c,_=>rfl
 |(k,b)::l,n,c,h=>by
  simp only[zP,zI,not_or] at h;have:=rS l n c h.2;simp only[qB] at this;simp only[qB,zP,ze,qp,if_neg h.1,this]
theorem uZ:∀(l:List (Int×Nat)) (n:Int) (c:Nat),n∉l.map (·.1)->ti (qB (l++[(n,c)])) n=qB l
 |[],n,c,_=>by simp[qB,ti]
 |(k,b)::l,n,c,h=>by
  simp only[zP,zI,not_or] at h;have:=uZ l n c h.2;simp only[qB] at this;simp only[qB,zP,ze,ti,if_neg h.1,this]
theorem MqN.yes{l:List (Int×Nat)}{n:Int}{ok:Bool}{z:AV}{K:AV->Prop}(hn:n∈l.map (·.1))(h:K (okR ok (.bool true) true)):MqN (qB l) n ok z K:=⟨by rw[Cm,if_pos hn];exact⟨rfl,h⟩⟩
theorem MqN.no{l:List (Int×Nat)}{n:Int}{ok:Bool}{z:AV}{K:AV->Prop}(hn:n∉l.map (·.1))(h:K (okR ok z false)):MqN (qB l) n ok z K:=⟨by rw[Cm,if_neg hn];exact h⟩
theorem aE.NV(s:St)(b:Nat)(hb:s.bs[b]? =some (.mp [])):aE s ⟨s.env,s.bs.set b (.mq [] 0),s.lo⟩:=λE G a w h=>by
 have hlt:=(zB.1 hb).1;refine⟨G,h.sW (λc=>?_) (λc=>?_) (by simp)⟩
 .simp only[ab,zq]
  by_cases e:b=c
  .subst e;simp only[if_true,hlt,hb];rfl
  .rw [if_neg e]
 .simp only[ag,zq]
  by_cases e:b=c
  .subst e;simp only[if_true,hlt,hb];rfl
  .rw [if_neg e]
theorem ah.NV{s t:St}(b:Nat)(hb:s.bs[b]? =some (.mp []))(h:ah ⟨s.env,s.bs.set b (.mq [] 0),s.lo⟩ t):ah s t:=⟨(aE.NV s b hb).trans h.out⟩
theorem iS{b:ByteArray}{n:Int}{K:Int->Prop}{y:UInt8}(k:K y.toNat)(h:b[n.toNat]? =some y:=by assumption)(h0:0<=n:=by omega):IM b n K:=⟨y,⟨h0,h⟩,k⟩
theorem gIs{b:ByteArray}{n:Int}{K:Int->Prop}(h:IM b n K):IM b n K:=h
theorem oko{p:Prop}(h:p:=by repeat' (first|exact rfl|exact vc oo _ _|exact vc fV _ _|exact vc gk _ _|exact vc eW _ _|refine KT ?_ ?_|refine okO_none ?_|refine JR ?_ ?_)):p:=h
theorem aa.ate{P:Program}{f:FuncId}{vals raw vals0:List AV}{bs bs0:List Box}{v:AV}{b:List Box}{K:AV->List Box->Prop}(is:List Nat)(h:Sem P f vals0 bs0 λr bs'=>r=v/\bs'=b)(hv0:raw.map (AV.rn (rho is))=vals0)(hb0:cut is bs is=bs0)(hK:K (v.rn (pie is bs.length)) (back is bs b))
  (hQ1:Nat.ble is.length b.length=true:=by rfl) (hQ2:v.atp (λk=>decide (k<b.length))=true:=by rfl) (hQ3:Aj (λk=>decide (k<b.length)) b=true:=by exact oko) (hb:okO (uP is) bs (is.map some)=true:=by exact oko)
  (hnd:pZ (is.map some)=true:=by rfl) (hin:ltO bs.length (is.map some)=true:=by rfl) (hv:raw.all (AV.atp (uP is))=true:=by rfl):aa P f vals raw bs K:=by
 refine aa.at is h hv0 hb0 ?_ hb ?_ hnd hin hv
 .rintro r bs' ⟨rfl,rfl⟩;exact⟨hQ1,hQ2,hQ3⟩
 .rintro r bs' ⟨rfl,rfl⟩;exact hK
end Go.AM
namespace Go.AM
open Go.CK Go.RowKit
section
variable{P:Program}
theorem GN{s:St}{o:Oper}{t:TypeId}{m k v:Operand}(ho:o.op=.insert t m k v)(hdn:o.dst=none){rm rk rv:Opd}(hm:opd m=some rm)(hk:opd k=some rk)(hv:opd v=some rv){kt et:TypeId}{ks:List FK}(ht:P.underlying t=some (.map kt et))(hkt:eK P kt=some ks){K:St->Prop}
  (h:HB ks s (s.ev rm) (s.ev rk) (s.ev rv) K):OpS P o s K:=by
 have hd:∀c,o.op≠.defer c:=λc e=>by rw[ho] at e;cases e
 obtain⟨b,cs,l,x,hme,hke,hb,hx,hxc,hok,hl,hf,hvo,hK⟩:=h;refine OpS.skip _ hd hdn hK λE G a w hs=>?_;have hmv:=hs.ev hm;rw[hme] at hmv;have hkv:=hs.ev hk;rw[hke] at hkv;have hkv:=dN hok.1 hkv;have hvv:=dN hvo (hs.ev hv);obtain⟨h1,_,_⟩:=hs.oC hb hx;refine⟨G,_,?_,hs.rG hb hx hxc rfl rfl⟩;have e1:=hmv.ep.1;obtain⟨q,h2,h3⟩:=iI (P:=P) hkt hok w hl hf
 cases q with
 |some q=>cases h3
 |none=>
  have he:(skE 0 l).toArray.push {key:=.agg (cs.map n3).toArray,val:=vOf (s.ev rv),born:=l.length}=(skE 0 (l++[(cs,s.ev rv)])).toArray:=by
   rw[vl,ZI];simp
  simp only[vOf] at hkv;unfold execOp;simp only[ho,Instr.mapUpdate,e1,hkv,hvv,yj,run_underlying ht,yi,a6 h1 rfl,fU hkt hok,h2,bT h1,he];rfl
end
section
variable{P:Program}{nt:Nat}{fl:Bool}{ops:Array Oper}{E:Entry}{rd:Option Nat}{n:Nat}
def OpI(P:Program)(nt:Nat)(ops:Array Oper)(i:Nat)(s:St)(K:St->Prop):Prop:=
 ∀(E:Entry) (G:Gh) (a:Act) (w:World) (rd:Option Nat) (n:Nat) (next:Act->World->Prop) (Q:Exit->Act->World->Prop),RS E G s a w->E.nt=nt->
  (∀s' G' a' w',K s'->RS E G' s' a' w'->a'.defers=a.defers->next a' w')->wpOpIn (F0 rd) n P ops Q i next a w
theorem OpI.run{o:Oper}{r:ROp}(hc:OpC P nt ops o r){i:Nat}(hi:ops[i]? =some o){dr:Bool}{s:St}{K:St->Prop}(h:r.run P dr s K):OpI P nt ops i s K:=λE G a w rd n next Q hs he hn=>e8 hc hi h hs he hn
theorem OpI.sem{o:Oper}{i:Nat}(hi:ops[i]? =some o)(hw:∀y,Region.wanted o y=true){s:St}{K:St->Prop}(hd:∀d,o.dst=some d->d<nt)(h:OpS P o s K):OpI P nt ops i s K:=λE G a w rd n next Q hs he hn=>by
 unfold wpOpIn;rw[hi];simp only;rw[if_pos (hw _)];exact h E G a w rd n next Q hs (λd e=>by rw[he];exact hd d e) hn
theorem Nj{I:(Nat->Bool)->St->Prop}{K:St->Prop}(hedge:fY ops.toList 0=true)
  (step:∀(L:Nat->Bool) (s:St) (i:Nat) (o:Oper),ops[i]? =some o->L i=false->(∀e∈o.after,Region.binds .any e=true->L e.on=true)->I L s->OpI P nt ops i s (I λj=>if j=i then true else L j))
  (fin:∀(L:Nat->Bool) (s:St),(∀i,i<ops.size->L i=true)->I L s->K s) {Q:Exit->Act->World->Prop} (hnt:E.nt=nt):
  ∀(fuel:Nat) (listed:Array Bool) (s:St) (G:Gh) (a:Act) (w:World),listed.size=ops.size->(ao ops listed).length<=fuel->I (λi=>listed.getD i false) s->RS E G s a w->
   (∀s' G' a' w',K s'->RS E G' s' a' w'->Q .normal a' w')->wpAnyIn (F0 rd) n P .any ops Q fuel listed a w:=by
 have hready:∀(listed:Array Bool) i,listed.size=ops.size->i∈Region.ready .any ops listed->i<ops.size/\listed.getD i true=false/\∃o,ops[i]? =some o/\∀e∈o.after,Region.binds .any e=true->listed.getD e.on false=true:=λlisted i hl h=>by
  simp only[Region.ready,zo,zd,zD,zb] at h;obtain⟨h1,h2,h3⟩:=h;refine⟨h1,h2,ops[i],zi h1,λe he hb=>?_⟩;rw[zi h1] at h3;simp only[zM,ZT,ZP,ZN,zb] at h3;rcases h3 e he with h4|h4
  .rw [hb] at h4;cases h4
  .exact h4
 have hall:∀(listed:Array Bool),listed.size=ops.size->ao ops listed=[]->∀i,i<ops.size->listed.getD i false=true:=λlisted hl hn i hi=>by
  cases hq:listed.getD i false with
  |true=>rfl
  |false=>
   exfalso
   have:i∈ao ops listed:=by
    simp only[ao,zo,zd,zb];refine⟨hi,?_⟩;have hsz:i<listed.size:=by omega
    simpa[hsz] using hq
   rw[hn] at this;cases this
 intro fuel
 induction fuel with
 |zero=>
  intro listed s G a w hl hlen hI hs hQ;have hnil:ao ops listed=[]:=ZY.1 (by omega)
  refine⟨?_,hQ s G a w (fin _ s (hall listed hl hnil) hI) hs⟩;rcases hq:Region.ready .any ops listed with _|⟨i,_⟩
  .rfl
  .obtain ⟨h1,h2,_⟩:=hready listed i hl (by rw[hq];simp)
   have:i∈ao ops listed:=by simp only[ao,zo,zd];exact⟨h1,by simp[h2]⟩
   rw[hnil] at this;cases this
 |succ fuel ih=>
  intro listed s G a w hl hlen hI hs hQ;refine⟨λhr=>?_,λi hi'=>?_⟩
  .have hnil:ao ops listed=[]:=by
    rcases hq:ao ops listed with _|⟨i,l⟩
    .rfl
    .exfalso;have hsort:(ao ops listed).Pairwise (·<·):=List.pairwise_lt_range.filter _;rw[hq] at hsort;have hfirst:=(ZA.1 hsort).1;have hmem:i∈ao ops listed:=by rw[hq];simp
     simp only[ao,zo,zd,zb] at hmem
     have hin:i∈Region.ready .any ops listed:=by
      simp only[Region.ready,zo,zd,zD,zb];refine⟨hmem.1,hmem.2,?_⟩;rw[zi hmem.1];simp only[zM,ZT,ZP,ZN,zb];intro e he
      cases hb:Region.binds .any e with
      |false=>exact .inl rfl
      |true=>
       have hlt:=dQ hedge i ops[i] (by simp[hmem.1]) e he hb
       rw[ZI] at hlt;refine .inr ?_
       cases hlk:listed.getD e.on false with
       |true=>rfl
       |false=>
        exfalso
        have hlk2:listed.getD e.on true=false:=by
         have hsz:e.on<listed.size:=by rw[hl];omega
         simpa[hsz] using hlk
        have hin2:e.on∈ao ops listed:=by
         simp only[ao,zo,zd,zb];exact⟨by omega,hlk2⟩
        rw[hq] at hin2;rcases zI.1 hin2 with h5|h5
        .omega
        .have:=hfirst _ h5;omega
     rw[hr] at hin;cases hin
   exact hQ s G a w (fin _ s (hall listed hl hnil) hI) hs
  .obtain ⟨h1,h2,o,ho,hpre⟩:=hready listed i hl hi';have hsz:i<listed.size:=by omega
   have h2f:listed.getD i false=false:=by simpa[hsz] using h2
   refine step _ s i o ho h2f hpre hI E G a w rd n _ _ hs hnt λs' G' a' w' hs1 hs' _=>?_
   have hget:(λj=>if j=i then true else listed.getD j false)=λj=>(listed.setIfInBounds i true).getD j false:=funext λj=>by
    by_cases hji:j=i
    .subst hji;simp[hsz]
    .rw [if_neg hji];simp only[zT];rw[zW (Ne.symm hji)]
   rw[hget] at hs1;refine ih _ _ G' a' w' (by simpa using hl) ?_ hs1 hs' hQ
   have hmem:i∈List.range ops.size:=by simpa using h1
   obtain⟨pre,post,e1,e2,e3⟩:=dO (λk=>!listed.getD k true) i (List.range ops.size) hmem (by simp[h2]) yb
   have hset:ao ops (listed.setIfInBounds i true)=pre++post:=by
    rw[<-e3];unfold ao;refine Zt λk hk=>?_
    by_cases hki:k=i
    .subst hki;simp[hsz]
    .have hne:(k==i)=false:=by simpa using hki
     simp[zW (Ne.symm hki),hne]
   rw[hset];have:(ao ops listed).length=(pre++i::post).length:=by rw[<-e1];rfl
   simp at this|-;omega
theorem WP.Gi(hm:P.follows .mixedOrders=true){id:Nat}(I:(Nat->Bool)->St->Prop)(hedge:fY ops.toList 0=true)
  (step:∀(L:Nat->Bool) (s:St) (i:Nat) (o:Oper),ops[i]? =some o->L i=false->(∀e∈o.after,Region.binds .any e=true->L e.on=true)->I L s->OpI P nt ops i s (I λj=>if j=i then true else L j))
  {s:St} (h0:I (λ_=>false) s) {Q:AX->St->Prop} (fin:∀(L:Nat->Bool) (s:St),(∀i,i<ops.size->L i=true)->I L s->Q .normal s):WP P nt fl (.region id ops true) s Q:=λE G a w rd n hs he=>by
 refine wpIn_region_any hm ?_;refine Nj (K:=Q .normal) hedge step fin he.1 ops.size _ s G a _ (by simp) (ZO (yJ _ _) (by simp)) ?_ hs.drew λs' G' a' w' h4 h5=>⟨.normal,s',G',rfl,h4,h5⟩
 have:(λi=>(Array.replicate ops.size false).getD i false)=λ_=>false:=funext λi=>by
  simp only[zT,yR];split<;>rfl
 rw[this];exact h0
end
theorem Sem.ofW{P:Program}{f:FuncId}{fn:Func}{c:Code}{rs:List cL}(hf:P.funcs[f]? =some fn)(hb:fn.body=some c)(hr:me P fn.results.toList=some rs)
  {vals:List AV} {bs:List Box} {Q:AV->List Box->Prop} (hn:vals.length<=fn.ntmps) (h:WP P fn.ntmps true c ⟨params 0 vals,bs,bs.length⟩ λx s=>∃s',aE s s'/\I7 rs Q x s'):Sem P f vals bs Q:=by
 intro E G a0 w args lo hpre hl hv;refine(callsIn_wide (n:=0)).1 (callsIn_of_wp_marks (F:=F0 none) hf hb trivial ?_);have h1:=hpre.enter hl hv hn;refine wpIn_mono (WP.qY h (cH G bs w fn.ntmps) _ _ w none 0 h1 ⟨rfl,λ_=>rfl⟩) ?_;rintro e a' w' ⟨x,s',G',rfl,q,hs'⟩
 have fin:pM s' rs Q->LeavesInM (F0 none) 0 P fn a'.tmps (λe w'=>∃v r bs' G',e=.returned v/\Q r bs'/\RS (cH G bs w 1) G' ⟨[(0,r)],bs',bs.length⟩ ⟨#[v],[]⟩ w') a'.defers .returning w':=λq=>by
  refine hs'.leaves rfl _ rfl λw2 h2=>?_;obtain⟨v,r,bs',G2,h3,h4,h5⟩:=h2.leave h2.lo.symm hr q;have hlo:s'.lo=bs.length:=hs'.lo;rw[hlo] at h5;exact⟨v,h3,v,r,bs',G2,rfl,h4,h5⟩
 cases x with
 |normal=>exact fin q
 |ret=>exact fin q
 |exit id=>exact q.elim
end Go.AM
namespace Go.CK
def nj{α:Type}(p:α->Bool):List α->Nat
 |[]=>0
 |x::r=>if p x then 0 else nj p r+1
theorem tI{α:Type}{p:α->Bool}:∀{l:List α} {k:Nat},(∀i x,i<k->l[i]? =some x->p x=false)->k<=l.length->(∀x,l[k]? =some x->p x=true)->nj p l=k
 |[],k,_,h2,_=>by simp only[ZQ,Nat.le_zero] at h2;subst h2;rfl
 |x::r,0,_,_,h3=>by rw[nj,if_pos (h3 x rfl)]
 |x::r,k+1,h1,h2,h3=>by
  rw[nj,if_neg (by rw[h1 0 x (by omega) rfl];decide),tI (k:=k) (λi y hi hy=>h1 (i+1) y (by omega) (by simpa using hy)) (by simpa using h2) (λy hy=>h3 y (by simpa using hy))]
theorem Bk{α:Type}{p:α->Bool}:∀{l:List α},nj p l<l.length↔∃x∈l,p x=true
 |[]=>by simp[nj]
 |x::r=>by
  have:=Bk (p:=p) (l:=r);rw[nj];split
  .rename_i h;simp[h]
  .rename_i h;simp[this,h]
def xg{α:Type}(p:α->Bool)(l:List α):Int:=if nj p l<l.length then nj p l else-1
theorem Jw{α:Type}(p:α->Bool)(l:List α):decide (0<=xg p l)=l.any p:=by
 unfold xg;have h:=Bk (p:=p) (l:=l);rw[Bool.eq_iff_iff,List.any_eq_true,decide_eq_true_eq,<-h];split<;>rename_i h2
 .exact ⟨λ_=>h2,λ_=>by omega⟩
 .exact ⟨λh=>absurd h (by decide),λh=>absurd h h2⟩
theorem Lu{α:Type}{p:α->Bool}{l:List α}{j:Nat}{x:α}(h1:∀i x,i<j->l[i]? =some x->p x=false)(hx:l[j]? =some x)(h:p x=true):xg p l=j:=by
 have hj:=(zB.1 hx).1;have:=tI h1 (Nat.le_of_lt hj) (λy hy=>by rw[hx] at hy;cases hy;exact h)
 rw[xg,this,if_pos hj]
theorem Lt{α:Type}{p:α->Bool}{l:List α}(h1:∀i x,i<l.length->l[i]? =some x->p x=false):xg p l=-1:=by
 have:=tI h1 (zG _) (λy hy=>by rw[zR (zG _)] at hy;cases hy)
 rw[xg,this,if_neg (Nat.lt_irrefl _)]
theorem CA{α:Type}{p:α->Bool}{l:List α}{j:Nat}{x:α}(h1:∀i x,i<j->l[i]? =some x->p x=false)(hx:l[j]? =some x)(h:p x=false):∀i x,i<j+1->l[i]? =some x->p x=false:=λi y hi hy=>by
 by_cases e:i=j
 .subst e;rw[hx] at hy;cases hy;exact h
 .exact h1 i y (by omega) hy
theorem Cz{α:Type}{p:α->Bool}{l:List α}:∀i x,i<0->l[i]? =some x->p x=false:=λi _ hi=>by omega
theorem LR{α:Type}{p:α->Bool}{l:List α}(h1:∀i x,i<l.length->l[i]? =some x->p x=false):l.any p=false:=by
 rw[List.any_eq_false];intro x hx;obtain⟨i,hi,rfl⟩:=Zz hx;rw[h1 i _ hi (zA hi)];decide
theorem LU{α:Type}{p:α->Bool}{l:List α}{j:Nat}{x:α}(hx:l[j]? =some x)(h:p x=true):l.any p=true:=List.any_eq_true.2 ⟨x,zE hx,h⟩
theorem OX{α:Type}{p:α->Bool}{l:List α}{j:Nat}{x:α}(hx:l[j]? =some x)(h:p x=false):l.all p=false:=List.all_eq_false.2 ⟨x,zE hx,by rw[h];decide⟩
theorem Nk{α:Type}{p:α->Bool}{l:List α}(h1:∀i x,i<l.length->l[i]? =some x->p x=true):l.all p=true:=by
 rw[zS];intro x hx;obtain⟨i,hi,rfl⟩:=Zz hx;exact h1 i _ hi (zA hi)
theorem JZ{α:Type}{p:α->Prop}{l:List α}{j:Nat}{x:α}(h1:∀i x,i<j->l[i]? =some x->p x)(hx:l[j]? =some x)(h:p x):∀i x,i<j+1->l[i]? =some x->p x:=λi y hi hy=>by
 by_cases e:i=j
 .subst e;rw[hx] at hy;cases hy;exact h
 .exact h1 i y (by omega) hy
def fP(x y:Int):Int:=if x<y then-1 else if y<x then 1 else 0
def sL(x y:ByteArray):Int:=if Op.bytesLess x.toList y.toList=true then-1 else if x=y then 0 else 1
def orI(a b:Int):Int:=if a=0 then b else a
theorem KQ(b:Int):orI 0 b=b:=rfl
theorem KR{a:Int}(h:¬a=0)(b:Int):orI a b=a:=if_neg h
theorem BB(x:Int):fP x x=0:=by simp[fP]
theorem gu:∀l:List UInt8,Op.bytesLess l l=false
 |[]=>rfl
 |x::l=>by simp[Op.bytesLess,gu l]
theorem JG(x:ByteArray):sL x x=0:=by simp[sL,gu]
theorem OL{x y:Int}:fP x y=0↔x=y:=by unfold fP;split<;>rename_i h<;>first|(split<;>omega)|omega
def j6(k:Int):Int:=if k=1 then 0 else if k=0 then 1 else if k=2 then 2 else 3
mutual
def Tm.cmp:Tm->Tm->Int
 |.mk k n s l,b=>
  orI (fP (j6 k) (j6 b.kind)) (if j6 k=0\/j6 k=1 then fP n b.num else if j6 k=2 then orI (fP l.length b.args.length) (orI (sL s b.name) (Tm.jQ l b.args)) else orI (fP k b.kind) (orI (fP n b.num) (sL s b.name)))
def Tm.jQ:List Tm->List Tm->Int
 |[],m=>fP 0 m.length
 |x::l,m=>match m with
  |[]=>1
  |y::m=>orI (Tm.cmp x y) (Tm.jQ l m)
end
theorem Tm.cmp_eq(a b:Tm):a.cmp b=orI (fP (j6 a.kind) (j6 b.kind)) (if j6 a.kind=0\/j6 a.kind=1 then fP a.num b.num else if j6 a.kind=2 then orI (fP a.args.length b.args.length) (orI (sL a.name b.name) (Tm.jQ a.args b.args)) else orI (fP a.kind b.kind) (orI (fP a.num b.num) (sL a.name b.name))):=by
 obtain⟨k,n,s,l⟩:=a;rw[Tm.cmp];rfl
theorem pH{l m:List Tm}{j:Nat}{x y:Tm}(hx:l[j]? =some x)(hy:m[j]? =some y):Tm.jQ (l.drop j) (m.drop j)=orI (x.cmp y) (Tm.jQ (l.drop (j+1)) (m.drop (j+1))):=by
 obtain⟨h1,rfl⟩:=zB.1 hx;obtain⟨h2,rfl⟩:=zB.1 hy;rw[zH h1,zH h2,Tm.jQ]
theorem xy{l m:List Tm}{j:Nat}(h1:j<=l.length)(h2:j<=m.length)(h:j=l.length\/j=m.length):Tm.jQ (l.drop j) (m.drop j)=fP l.length m.length:=by
 rcases zt j l.length with h3|h3
 .have:j=m.length:=by omega
  subst this;rw[zH h3,zj,Tm.jQ,fP,if_neg (by omega),if_pos (by omega)]
 .have:j=l.length:=by omega
  subst this;rw[zj,Tm.jQ,Zh];unfold fP;split<;>split<;>first|rfl|omega|(split<;>first|rfl|omega)
theorem Tm.LJ(t:Tm):t.cmp t=0:=by
 induction t using Tm.bD with
 |h k n s l ih=>
  have hl:∀r:List Tm,(∀t∈r,t.cmp t=0)->Tm.jQ r r=0:=λr=>by
   induction r with
   |nil=>intro _;rfl
   |cons t r ihr=>intro h;rw[Tm.jQ,h t (by simp),KQ];exact ihr λx hx=>h x (by simp[hx])
  rw[Tm.cmp];simp only[Tm.kind,Tm.num,Tm.name,Tm.args,BB,JG,KQ,hl l ih];split<;>first|rfl|(split<;>rfl)
theorem Tm.BA:∀l:List Tm,Tm.jQ l l=0
 |[]=>rfl
 |t::r=>by rw[Tm.jQ,t.LJ,KQ];exact Tm.BA r
mutual
def Tm.wgh:Tm->Int->Int->Int
 |.mk _ _ s l,left,deep=>if deep-1=0\/left-1-(s.size:Int).tdiv 8<l.length then-1 else Tm.iD l (left-1-(s.size:Int).tdiv 8) (deep-1)
def Tm.iD:List Tm->Int->Int->Int
 |[],left,_=>left
 |t::r,left,deep=>if left<0 then left else Tm.iD r (Tm.wgh t left deep) deep
end
def bQ(l:List Tm)(left deep:Int):Int:=if deep=0\/left<l.length then-1 else Tm.iD l left deep
theorem Tm.FY(t:Tm)(left deep:Int):t.wgh left deep=bQ t.args (left-1-(t.name.size:Int).tdiv 8) (deep-1):=by
 obtain⟨k,n,s,l⟩:=t;rw[Tm.wgh];rfl
theorem vi(n:Nat):(n:Int).tdiv 8=((n/8:Nat):Int):=by rw[Int.tdiv_eq_ediv_of_nonneg (by omega)];rfl
theorem IS{l:List Tm}{j:Nat}{x:Tm}(hx:l[j]? =some x){left:Int}(h:0<=left)(deep:Int):Tm.iD (l.drop j) left deep=Tm.iD (l.drop (j+1)) (x.wgh left deep) deep:=by
 obtain⟨h1,rfl⟩:=zB.1 hx;rw[zH h1,Tm.iD,if_neg (by omega)]
theorem ve(l:List Tm){left:Int}(h:left<0)(deep:Int):Tm.iD l left deep=left:=by
 cases l with
 |nil=>rfl
 |cons t r=>rw[Tm.iD,if_pos h]
theorem Dr(t:Tm):∀left deep:Int,-1<=bQ t.args left deep/\bQ t.args left deep<=max left (-1):=by
 induction t using Tm.bD with
 |h k n s l ih=>
  have hl:∀r:List Tm,(∀t∈r,t∈l)->∀left deep:Int,-1<=left->-1<=Tm.iD r left deep/\Tm.iD r left deep<=left:=λr=>by
   induction r with
   |nil=>intro _ left deep h;simp only[Tm.iD];omega
   |cons t r ihr=>
    intro hm left deep h;have h1:=ih t (hm t (by simp)) (left-1-(t.name.size:Int).tdiv 8) (deep-1)
    rw[<-Tm.FY,vi] at h1;simp only[Tm.iD];split
    .omega
    .have h2:=ihr (λx hx=>hm x (by simp[hx])) (t.wgh left deep) deep h1.1
     omega
  intro left deep;show-1<=bQ l left deep/\bQ l left deep<=max left (-1)
  by_cases hc:deep=0\/left<l.length
  .rw [bQ,if_pos hc];omega
  .rw [bQ,if_neg hc];have:=hl l (λ_ h=>h) left deep (by omega)
   omega
theorem NR(t:Tm)(left deep:Int)(h:-1<=left):-1<=t.wgh left deep/\t.wgh left deep<=left:=by
 have:=Dr t (left-1-(t.name.size:Int).tdiv 8) (deep-1);rw[<-Tm.FY,vi] at this;omega
end Go.CK
