/-
  Texts of this aV joined (wip/gen/bundle.py),those declarations only that are needed:AmLy AmSk PlA PlB PlC PlD PlE PlF PlG PlH PlI PlJ PlK PlL PlM PlN IxS SrtM PlO PlP PlQ PlR PlS PlT LkpC LkpD LkpE LkpF LkpG LkpH Lay UnF. By an AI agent.
-/
import Derived.Test.YtcjfkbdbcgmomaaGreatDoorSau
import Derived.Ground.NamesProg
import Derived.Ground.Names2Prog
import Derived.Ground.GgzProg
import Derived.Ground.GgwProg
import Derived.Shelf.Sort.Plain
import Derived.Shelf.Slices.In.SortNone
import Derived.Shelf.SlIterI.Sorted
import Derived.Shelf.SlIterI.Collect
import Derived.Shelf.SlIterI.Keys
import Derived.Shelf.GgClosure.StringsIndexFuncTop
import Derived.Shelf.Strings.Search3
import Derived.Shelf.Strings.BuilderF
import Derived.Shelf.Strconv.Itoa3
import Derived.Shelf.Spec.SlicesInsertGrow
set_option linter.unusedSimpArgs false
set_option linter.unusedVariables false
set_option maxRecDepth 100000
namespace Go.AM
open Go.CK Go.RowKit
def ixO:List (Option Nat)->Nat->Nat->Option Nat
 |[],_,_=>none
 |none::l,b,k=>ixO l b (k+1)
 |some i::l,b,k=>match Nat.beq i b with
  |true=>some k
  |false=>ixO l b (k+1)
theorem tV:∀{l:List (Option Nat)} {b k q:Nat},ixO l b k=some q->k<=q/\l[q-k]? =some (some b)
 |none::l,b,k,q,h=>by
  obtain⟨h1,h2⟩:=tV (l:=l) (k:=k+1) h;refine⟨by omega,?_⟩
  rw[show q-k=(q-(k+1))+1 by omega]
  simpa using h2
 |some i::l,b,k,q,h=>by
  simp only[ixO] at h;split at h
  .rename_i hb;cases h;have:=zP hb;subst this;simp
  .obtain ⟨h1,h2⟩:=tV h;refine⟨by omega,?_⟩
   rw[show q-k=(q-(k+1))+1 by omega]
   simpa using h2
def inO(l:List (Option Nat))(b:Nat):Bool:=match ixO l b 0 with
 |some _=>true
 |none=>false
def jE(l:List (Option Nat))(b:Nat):Nat:=match ixO l b 0 with
 |some k=>k
 |none=>0
def ko(f:Nat->Nat)(bs:List Box):List (Option Nat)->List Box
 |[]=>[]
 |none::l=>.dead::ko f bs l
 |some i::l=>rnB f (jA bs i)::ko f bs l
theorem uu(f:Nat->Nat)(bs:List Box):∀(l:List (Option Nat)) (k:Nat),(ko f bs l)[k]? =(l[k]?).map λo=>match o with|some i=>rnB f (jA bs i)|none=>.dead
 |[],k=>by simp[ko]
 |none::l,0=>by simp[ko]
 |some i::l,0=>by simp[ko]
 |none::l,k+1=>by simp[ko,uu f bs l k]
 |some i::l,k+1=>by simp[ko,uu f bs l k]
theorem nI(f:Nat->Nat)(bs:List Box):∀l:List (Option Nat),(ko f bs l).length=l.length
 |[]=>rfl
 |none::l=>by simp[ko,nI f bs l]
 |some i::l=>by simp[ko,nI f bs l]
def rnE(f:Nat->Nat):List (Nat×AV)->List (Nat×AV)
 |[]=>[]
 |(t,x)::e=>(t,x.rn f)::rnE f e
theorem Ef(f:Nat->Nat):∀(e:List (Nat×AV)) (t:Nat),aq (rnE f e) t=(aq e t).map (AV.rn f)
 |[],t=>rfl
 |(k,x)::e,t=>by
  simp only[rnE,aq]
  cases Nat.beq k t with
  |true=>rfl
  |false=>exact Ef f e t
def atE(p:Nat->Bool):List (Nat×AV)->Bool
 |[]=>true
 |(_,x)::e=>x.atp p&&atE p e
theorem EN{p:Nat->Bool}:∀{e:List (Nat×AV)} {t:Nat} {x:AV},atE p e=true->aq e t=some x->x.atp p=true
 |(k,y)::e,t,x,h,hg=>by
  simp only[atE,zD] at h;simp only[aq] at hg;split at hg
  .cases hg;exact h.1
  .exact EN h.2 hg
 |[],_,_,_,hg=>by cases hg
def pC:List (Option Nat)->Bool
 |[]=>true
 |none::l=>pC l
 |some i::l=>(match ixO l i 0 with|some _=>false|none=>true)&&pC l
def Db(n:Nat):Nat->List (Option Nat)->Bool
 |_,[]=>true
 |b,none::l=>Db n (b+1) l
 |b,some i::l=>(Nat.ble n b||Nat.beq i b)&&Db n (b+1) l
def ltO(N:Nat):List (Option Nat)->Bool
 |[]=>true
 |none::l=>ltO N l
 |some i::l=>Nat.blt i N&&ltO N l
theorem tW:∀{l:List (Option Nat)} {b k:Nat},ixO l b k=none->some b∉l
 |none::l,b,k,h,hm=>by
  rcases zI.1 hm with hm|hm
  .cases hm
  .exact tW (l:=l) h hm
 |some i::l,b,k,h,hm=>by
  simp only[ixO] at h;split at h
  .cases h
  .rename_i hb;rcases zI.1 hm with hm|hm
   .cases hm;simp at hb
   .exact tW h hm
 |[],_,_,_,hm=>by cases hm
theorem l9:∀{l:List (Option Nat)},pC l=true->∀{k k' i:Nat},l[k]? =some (some i)->l[k']? =some (some i)->k=k'
 |none::l,h,0,k',i,h1,h2=>by simp at h1
 |none::l,h,k+1,0,i,h1,h2=>by simp at h2
 |none::l,h,k+1,k'+1,i,h1,h2=>by
  have:=l9 (l:=l) h (k:=k) (k':=k') (i:=i) (by simpa using h1) (by simpa using h2)
  rw[this]
 |some j::l,h,k,k',i,h1,h2=>by
  simp only[pC,zD] at h
  have hno:some j∉l:=by
   have:=h.1;split at this
   .cases this
   .rename_i hn;exact tW hn
  cases k with
  |zero=>
   simp at h1;subst h1
   cases k' with
   |zero=>rfl
   |succ k'=>exact absurd (zE (by simpa using h2)) hno
  |succ k=>
   cases k' with
   |zero=>simp at h2;subst h2;exact absurd (zE (by simpa using h1)) hno
   |succ k'=>
    have:=l9 h.2 (k:=k) (k':=k') (i:=i) (by simpa using h1) (by simpa using h2)
    rw[this]
 |[],_,k,k',i,h1,_=>by simp at h1
theorem qH{n:Nat}:∀{l:List (Option Nat)} {c k i:Nat},Db n c l=true->l[k]? =some (some i)->c+k<n->i=c+k
 |none::l,c,0,i,h,h1,hlt=>by simp at h1
 |none::l,c,k+1,i,h,h1,hlt=>by
  have:=qH (l:=l) (c:=c+1) (k:=k) (i:=i) h (by simpa using h1) (by omega)
  omega
 |some j::l,c,k,i,h,h1,hlt=>by
  simp only[Db,zD,ZO] at h
  cases k with
  |zero=>
   simp at h1;subst h1;rcases h.1 with h|h
   .have:=zt h;omega
   .exact zP h
  |succ k=>
   have:=qH (c:=c+1) (k:=k) (i:=i) h.2 (by simpa using h1) (by omega)
   omega
 |[],c,k,i,_,h1,_=>by simp at h1
theorem pI{N:Nat}:∀{l:List (Option Nat)} {k i:Nat},ltO N l=true->l[k]? =some (some i)->i<N
 |none::l,0,i,h,h1=>by simp at h1
 |none::l,k+1,i,h,h1=>pI (l:=l) (k:=k) h (by simpa using h1)
 |some j::l,k,i,h,h1=>by
  simp only[ltO,zD] at h
  cases k with
  |zero=>simp at h1;subst h1;simpa[Nat.blt_eq] using h.1
  |succ k=>exact pI h.2 (by simpa using h1)
 |[],k,i,_,h1=>by simp at h1
def okO(p:Nat->Bool)(bs:List Box):List (Option Nat)->Bool
 |[]=>true
 |none::l=>okO p bs l
 |some i::l=>atB p (jA bs i)&&okO p bs l
theorem pD{p:Nat->Bool}{bs:List Box}:∀{l:List (Option Nat)} {k i:Nat},okO p bs l=true->l[k]? =some (some i)->atB p (jA bs i)=true
 |none::l,0,i,h,h1=>by simp at h1
 |none::l,k+1,i,h,h1=>pD (l:=l) (k:=k) h (by simpa using h1)
 |some j::l,k,i,h,h1=>by
  simp only[okO,zD] at h
  cases k with
  |zero=>simp at h1;subst h1;exact h.1
  |succ k=>exact pD h.2 (by simpa using h1)
 |[],k,i,_,h1=>by simp at h1
theorem au.lay(s:St)(is:List (Option Nat))(h1:pC is=true)(h2:Db s.lo 0 is=true)(h3:ltO s.bs.length is=true)(h4:Nat.ble s.lo is.length=true)(he:atE (inO is) s.env=true)(hb:okO (inO is) s.bs is=true):
  au s ⟨rnE (jE is) s.env,ko (jE is) s.bs is,s.lo⟩:=λE G a w hs=>by
 obtain⟨env,bs,lo⟩:=s;simp only at h2 h3 h4 he hb|-;have h4:=zt h4;have hlo:lo=E.nb:=hs.lo;have hcl:(ko (jE is) bs is).length=is.length:=nI _ _ _
 have hcb:∀{k:Nat} {y:Box},(ko (jE is) bs is)[k]? =some y->(is[k]? =some none/\y=.dead)\/∃i x,is[k]? =some (some i)/\bs[i]? =some x/\y=rnB (jE is) x/\atB (inO is) x=true:=λ{k y} hy=>by
  rw[uu] at hy
  cases hk:is[k]? with
  |none=>rw[hk] at hy;cases hy
  |some o=>
   rw[hk] at hy
   cases o with
   |none=>simp at hy;exact .inl ⟨rfl,hy.symm⟩
   |some i=>
    have hlt:=pI h3 hk;have hx:bs[i]? =some bs[i]:=zA hlt;have hat:=pD hb hk;rw[lB hx] at hat;simp only[zM,zO,lB hx] at hy;exact .inr ⟨i,_,rfl,hx,hy.symm,hat⟩
 obtain⟨G2,hG2⟩:∃G2:Gh,G2=⟨G.M,λb=>match is[b]? with|some (some i)=>G.σ i|_=>G.σ b,λp=>match p with|.sl t=>G.cl (.sl t)|.bx b j=>match is[b]? with|some (some i)=>G.cl (.bx i j)|_=>none⟩:=⟨_,rfl⟩;have hM:G2.M=G.M:=by rw[hG2]
 have hσ:∀{k i:Nat},is[k]? =some (some i)->G2.σ k=G.σ i:=λ{k i} hk=>by rw[hG2];simp only[hk]
 have hclS:∀t,G2.cl (.sl t)=G.cl (.sl t):=λt=>by rw[hG2]
 have hclB:∀{k i:Nat} (j:Nat),is[k]? =some (some i)->G2.cl (.bx k j)=G.cl (.bx i j):=λ{k i} j hk=>by rw[hG2];simp only[hk]
 have hcl2:∀{p:Pl} {B:Nat},G2.cl p=some B->(∃t,p=.sl t/\G.cl (.sl t)=some B)\/∃k i j,p=.bx k j/\is[k]? =some (some i)/\G.cl (.bx i j)=some B:=λ{p B} hp=>by
  cases p with
  |sl t=>exact .inl ⟨t,rfl,by rw[<-hclS];exact hp⟩
  |bx k j=>
   rw[hG2] at hp;simp only at hp;split at hp
   .rename_i i hk;exact .inr ⟨k,i,j,rfl,hk,hp⟩
   .cases hp
 have hcells:∀{k:Nat} {cs:List AV},aa (ko (jE is) bs is) k=some cs->∃i ds,is[k]? =some (some i)/\aa bs i=some ds/\cs=ds.map (AV.rn (jE is))/\∀c∈ds,c.atp (inO is)=true:=λ{k cs} hc=>by
  unfold aa at hc;split at hc
  .rename_i y hy;rcases hcb hy with ⟨_,rfl⟩|⟨i,x,q1,q2,rfl,q4⟩
   .cases hc
   .rw [CX _ q4] at hc
    cases hx:x.cs? with
    |none=>rw[hx] at hc;cases hc
    |some ds=>
     rw[hx] at hc;simp only[zM,zO] at hc;exact⟨i,ds,q1,by simp only[aa,q2,hx],hc.symm,rz q4 hx⟩
  .cases hc
 have hloops:∀{k:Nat} {x:LB},ag (ko (jE is) bs is) k=some x->∃i,is[k]? =some (some i)/\ag bs i=some x/\x.n=0/\∀M:Hp,x.M.le M:=λ{k x} hc=>by
  unfold ag at hc;split at hc
  .rename_i y hy;rcases hcb hy with ⟨_,rfl⟩|⟨i,z,q1,q2,rfl,q4⟩
   .cases hc
   .rw [CW] at hc;exact⟨i,q1,by simp only[ag,q2,hc],DL q4 hc⟩
  .cases hc
 have hone:=λ{k k' i:Nat}=>l9 h1 (k:=k) (k':=k') (i:=i)
 have toR:∀{x:AV} {v:Value},RV G.M G.σ bs.length x v->x.atp (inO is)=true->RV G2.M G2.σ (ko (jE is) bs is).length (x.rn (jE is)) v:=λ{x v} hx hp=>by
  rw[hM];refine hx.rn (λb hb _=>?_) hp;unfold inO at hb
  cases hq:ixO is b 0 with
  |none=>rw[hq] at hb;cases hb
  |some k=>
   obtain⟨_,q1⟩:=tV hq;rw[yE] at q1;have hr:jE is b=k:=by unfold jE;rw[hq]
   rw[hr,hσ q1,hcl];exact⟨rfl,(zB.1 q1).1⟩
 have hat:∀{p:Pl} {x:AV},(⟨rnE (jE is) env,ko (jE is) bs is,lo⟩:St).at p=some x->(∃t y,p=.sl t/\(⟨env,bs,lo⟩:St).at (.sl t)=some y/\x=y.rn (jE is)/\y.atp (inO is)=true)\/(∃k i j y,p=.bx k j/\is[k]? =some (some i)/\(⟨env,bs,lo⟩:St).at (.bx i j)=some y/\x=y.rn (jE is)/\y.atp (inO is)=true):=λ{p x} hp=>by
  cases p with
  |sl t=>
   simp only[St.at,Ef] at hp
   cases hq:aq env t with
   |none=>rw[hq] at hp;cases hp
   |some y=>
    rw[hq] at hp;simp only[zM,zO] at hp
    exact .inl ⟨t,y,rfl,hq,hp.symm,EN he hq⟩
  |bx k j=>
   simp only[St.at] at hp
   cases hbk:aa (ko (jE is) bs is) k with
   |none=>rw[hbk] at hp;cases hp
   |some cs=>
    obtain⟨i,ds,q1,q2,q3,q4⟩:=hcells hbk;rw[hbk,q3] at hp;simp only[ZH,ZG] at hp
    cases hj:ds[j]? with
    |none=>rw[hj] at hp;cases hp
    |some y=>
     rw[hj] at hp;simp only[zM,zO] at hp;exact .inr ⟨k,i,j,y,rfl,q1,by simp only[St.at,q2,ZH,hj],hp.symm,q4 y (zE hj)⟩
 have hval:∀{k i:Nat} (j:Nat),is[k]? =some (some i)->aw G2.σ a w (.bx k j)=aw G.σ a w (.bx i j):=λ{k i} j hk=>by simp only[aw,hσ hk]
 refine⟨G2,by rw[hM];exact hs.fr,by rw[hM];exact hs.ok,hs.nt,λp x hp=>?_,λk j x hp=>?_,λk cs hk=>?_,λk cs hk=>?_,λk k' cs cs' hk hk' e=>?_,λp z l hp=>?_,λp q B hp hq=>?_,λp B hp k cs hk=>?_,λp B hp=>?_,hs.lo,by show E.nb<=_;rw[hcl];omega,λb hb=>?_,?_⟩
 .rcases hat hp with ⟨t,y,rfl,q1,rfl,q2⟩|⟨k,i,j,y,rfl,q0,q1,rfl,q2⟩
  .show RV G2.M G2.σ _ _ (aw G2.σ a w (.sl t));rw[mX];exact toR (hs.val _ _ q1) (by rw[lD];exact q2)
  .show RV G2.M G2.σ _ _ (aw G2.σ a w (.bx k j));rw[mX,hval j q0];exact toR (hs.val _ _ q1) (by rw[lD];exact q2)
 .rcases hat hp with ⟨t,y,e,_⟩|⟨k',i,j',y,e,q0,q1,rfl,q2⟩
  .cases e
  .cases e;rw[hval _ q0];exact hs.one _ _ _ q1
 .obtain ⟨i,ds,q1,q2,rfl,_⟩:=hcells hk;rw[hσ q1,zF];exact hs.box i ds q2
 .obtain ⟨i,ds,q1,q2,rfl,_⟩:=hcells hk;rw[hσ q1,hM];exact hs.bmem i ds q2
 .obtain ⟨i,ds,q1,q2,_,_⟩:=hcells hk;obtain⟨i',ds',q1',q2',_,_⟩:=hcells hk';rw[hσ q1,hσ q1'] at e;have:=hs.inj i i' ds ds' q2 q2' e;subst this;exact hone q1 q1'
 .rcases hat hp with ⟨t,y,rfl,q1,e,q2⟩|⟨k,i,j,y,rfl,q0,q1,e,q2⟩
  .have hy:=ti e.symm;subst hy;obtain⟨ad,kk,r1,r2,r3⟩:=hs.own _ _ _ q1;refine⟨ad,kk,r1,r2,?_⟩;rcases r3 with r3|⟨B,hB,r4,r5⟩
   .exact .inl r3
   .exact .inr ⟨B,by rw[hclS];exact hB,r4,r5.lt,r5.cells,by rw[hM];exact r5.free,r5.mine⟩
  .have hy:=ti e.symm;subst hy;obtain⟨ad,kk,r1,r2,r3⟩:=hs.own _ _ _ q1;refine⟨ad,kk,by rw[hval j q0];exact r1,r2,?_⟩
   rcases r3 with r3|⟨B,hB,r4,r5⟩
   .exact .inl r3
   .exact .inr ⟨B,by rw[hclB j q0];exact hB,r4,r5.lt,r5.cells,by rw[hM];exact r5.free,r5.mine⟩
 .rcases hcl2 hp with ⟨t,rfl,q1⟩|⟨k,i,j,rfl,q0,q1⟩<;>rcases hcl2 hq with ⟨t',rfl,q1'⟩|⟨k',i',j',rfl,q0',q1'⟩
  .exact hs.clinj _ _ B q1 q1'
  .have:=hs.clinj _ _ B q1 q1';cases this
  .have:=hs.clinj _ _ B q1 q1';cases this
  .have:=hs.clinj _ _ B q1 q1';cases this;have:=hone q0 q0';subst this;rfl
 .obtain ⟨i,ds,q1,q2,_,_⟩:=hcells hk;rw[hσ q1];rcases hcl2 hp with ⟨t,rfl,q⟩|⟨k',i',j,rfl,q0,q⟩
  .exact hs.clbox _ B q i ds q2
  .exact hs.clbox _ B q i ds q2
 .rcases hcl2 hp with ⟨t,rfl,q⟩|⟨k',i',j,rfl,q0,q⟩
  .exact hs.cllt _ B q
  .exact hs.cllt _ B q
 .have hlt:b<is.length:=by omega
  have hsg:=hs.sig b hb;rw[hG2];simp only
  cases hk:is[b]? with
  |none=>exact hsg
  |some o=>
   cases o with
   |none=>exact hsg
   |some i=>
    have:=qH h2 hk (by omega)
    rw[ZJ] at this;subst this;exact hsg
 .refine ⟨λB o hsp=>?_,λk x hk=>?_,λk k' x x' hk hk' e=>?_,hs.sp.ds,λk x hk j B o hj=>by
   obtain⟨i,q1,q2,_,_⟩:=hloops hk;obtain⟨r1,r2,r3⟩:=hs.sp.rows i x q2 j B o hj;exact⟨r1,by rw[hclB j q1];exact r2,by rw[hM];exact r3⟩⟩
  .rcases hsp with ⟨k,x,hk,e,ho⟩|hm
   .obtain ⟨i,q1,q2,_,_⟩:=hloops hk;rw[hσ q1] at e;obtain⟨r1,r2,r3⟩:=hs.sp.ob B o (.inl ⟨i,x,q2,e,ho⟩);refine⟨r1,λp hp=>?_,r3⟩;rcases hcl2 hp with ⟨t,rfl,q⟩|⟨k',i',j,rfl,q0,q⟩<;>exact r2 _ q
   .obtain ⟨r1,r2,r3⟩:=hs.sp.ob B o (.inr hm);refine⟨r1,λp hp=>?_,r3⟩;rcases hcl2 hp with ⟨t,rfl,q⟩|⟨k',i',j,rfl,q0,q⟩<;>exact r2 _ q
  .obtain ⟨i,q1,q2,q3,q4⟩:=hloops hk;exact⟨q4 _,by omega,λc hc=>by omega⟩
  .obtain ⟨i,q1,q2,_,_⟩:=hloops hk;obtain⟨i',q1',q2',_,_⟩:=hloops hk';rw[hσ q1,hσ q1'] at e;have:=hs.sp.inj i i' x x' q2 q2' e;subst this;exact hone q1 q1'
theorem G4{p:Nat->Bool}{bs:List Box}{i:Nat}{l:List (Option Nat)}(h:atB p (jA bs i)=true)(k:okO p bs l=true):okO p bs (some i::l)=true:=by simp only[okO,h,k,Bool.and_self]
theorem sF{α:Type}{f:α->AV}{z:Nat}(hp:Plain f z){p:Nat->Bool}(k:Nat)(l:List α):atB p (aN f z k l)=true:=by
 simp only[aN,atB,zT];intro c hc;rcases zZ.1 hc with hc|hc
 .exact (hp.mem hc).2
 .rw [(Zb.1 hc).2];rfl
theorem F8{p:Nat->Bool}{x:Box}{l:List Box}(h:atB p x=true)(k:vu p l=true):vu p (x::l)=true:=by simp only[vu,h,k,Bool.and_self]
theorem az.lay{s t:St}(is:List (Option Nat))(hb:okO (inO is) s.bs is=true)(h:(⟨rnE (jE is) s.env,ko (jE is) s.bs is,s.lo⟩:St).fo true λs'=>az s' t)(h1:pC is=true:=by rfl)(h2:Db s.lo 0 is=true:=by rfl)(h3:ltO s.bs.length is=true:=by rfl)(h4:Nat.ble s.lo is.length=true:=by rfl)(he:atE (inO is) s.env=true:=by rfl):az s t:=by
 rw[St.cX] at h;exact⟨(au.lay s is h1 h2 h3 h4 he hb).trans h.out⟩
theorem ai.lay{s:St}{rs:List e7}{Q:AV->List Box->Prop}(is:List (Option Nat))(hb:okO (inO is) s.bs is=true)(h:(⟨rnE (jE is) s.env,ko (jE is) s.bs is,s.lo⟩:St).fo true λs'=>ai s' rs Q)(h1:pC is=true:=by rfl)(h2:Db s.lo 0 is=true:=by rfl)(h3:ltO s.bs.length is=true:=by rfl)(h4:Nat.ble s.lo is.length=true:=by rfl)(he:atE (inO is) s.env=true:=by rfl):ai s rs Q:=by
 rw[St.cX] at h;obtain⟨s',q1,q2⟩:=h.out;exact⟨s',(au.lay s is h1 h2 h3 h4 he hb).trans q1,q2⟩
theorem ai.wk{s s':St}{rs:List e7}{Q:AV->List Box->Prop}(hw:au s s')(h:ai s' rs Q):ai s rs Q:=by
 obtain⟨s2,q1,q2⟩:=h.out;exact⟨s2,hw.trans q1,q2⟩
theorem ah.at{P:Program}{f:FuncId}{ae raw vals0:List AV}{bs bs0:List Box}{Q:AV->List Box->Prop}{K:AV->List Box->Prop}(is:List Nat)(h:Sem P f vals0 bs0 Q)(hv0:raw.map (AV.rn (rho is))=vals0)(hb0:cut is bs is=bs0)
  (hQ:∀r bs',Q r bs'->Nat.ble is.length bs'.length=true/\r.atp (λb=>decide (b<bs'.length))=true/\vu (λb=>decide (b<bs'.length)) bs'=true)
  (hb:okO (sg is) bs (is.map some)=true) (hK:∀r bs',Q r bs'->K (r.rn (pie is bs.length)) (back is bs bs'))
  (hnd:pC (is.map some)=true:=by rfl) (hin:ltO bs.length (is.map some)=true:=by rfl) (hv:raw.all (AV.atp (sg is))=true:=by rfl):ah P f ae raw bs K:=by
 subst hv0 hb0;have hget:∀{k i:Nat},is[k]? =some i->(is.map some)[k]? =some (some i):=λ{k i} h=>by rw[ZG,h];rfl
 refine .raw (Sem.ren is ?_ (λi hi=>?_) (by simpa using hv) (λi hi=>?_) (h.mono λr bs' hq=>⟨?_,hq⟩)) ?_
 .refine List.pairwise_iff_getElem.2 λi j hi hj hij e=>?_;have:=l9 hnd (hget (zA hi)) (hget (k:=j) (i:=is[i]) (by rw[zA hj,e]))
  omega
 .obtain ⟨k,hk⟩:=ZT hi;exact pI hin (hget hk)
 .obtain ⟨k,hk⟩:=ZT hi;exact pD hb (hget hk)
 .obtain ⟨q1,q2,q3⟩:=hQ r bs' hq;exact⟨zt q1,q2,q3⟩
 .rintro r bs' ⟨r0,bs2,hq,rfl,rfl⟩;exact hK r0 bs2 hq
section
variable{α:Type}{f:α->AV}{z:Nat}
theorem lJ(hp:Plain f z){bs:List Box}{b k i:Nat}{l:List α}{x:α}(hb:bs[b]? =some (aN f z k l))(hx:l[i]? =some x):aa bs b=some (cellsOf (l.map f)++List.replicate ((k-l.length)*z) AV.top):=by
 refine da (dy hb) λe=>?_;have:=congrArg List.length e;rw[zC,hp.len,ZR] at this;have hi:=(zB.1 hx).1;have:=hp.pos;have h2:0<l.length*z:=Nat.mul_pos (by omega) hp.pos
 omega
theorem pv(hp:Plain f z){k i off:Nat}{l:List α}{x:α}(hx:l[i]? =some x)(ho:off<z):(cellsOf (l.map f)++List.replicate ((k-l.length)*z) AV.top)[i*z+off]? =(f x).cells[off]?:=by
 obtain⟨hi,rfl⟩:=zB.1 hx
 have hlt:i*z+off<(cellsOf (l.map f)).length:=by
  rw[hp.len];have:(i+1)*z<=l.length*z:=ZF _ hi;rw[ZN,yQ] at this;omega
 rw[zK hlt,jv (z:=z) (λy hy=>by obtain⟨x,_,rfl⟩:=zl.1 hy;exact hp.sz x) i (by simpa using hi) off ho]
 simp
theorem ElN.elem(hp:Plain f z){e:List (Nat×AV)}{bs:List Box}{lo b k i:Nat}{l:List α}{x:α}{K:AV->Prop}(hb:bs[b]? =some (aN f z k l))(hx:l[i]? =some x)(h:K (.agg (f x).cells)):ElN true z ⟨e,bs,lo⟩ (.elp b i z 0) K:=by
 refine⟨?_⟩;simp only[St.rd,lJ hp hb hx,Zi];have hi:=(zB.1 hx).1
 have hlen:i*z+z<=(cellsOf (l.map f)++List.replicate ((k-l.length)*z) AV.top).length:=by
  rw[zC,hp.len];have:(i+1)*z<=l.length*z:=ZF _ hi;rw[ZN,yQ] at this;omega
 simp only[bL];refine af.2 ⟨by rw[Nat.ble_eq];simp only[zF,Zg];omega,?_⟩
 have e2:(((cellsOf (l.map f)++List.replicate ((k-l.length)*z) AV.top).drop (i*z)).map AV.aG).take z=(f x).cells:=by
  apply Zr;intro j
  by_cases hj:j<z
  .rw [List.getElem?_take_of_lt hj,ZG,List.getElem?_drop,pv hp hx hj]
   cases hc:(f x).cells[j]? with
   |none=>rfl
   |some c=>simp only[zM];rw[hp.de x c (zE hc)]
  .rw [zS (by simp;omega),zS (by rw[hp.sz];omega)]
 rw[e2];exact h
theorem EsN.elem(hp:Plain f z)(hk:∀x,aW (f x)=true){e:List (Nat×AV)}{bs:List Box}{lo b k i:Nat}{l:List α}{x y:α}{v:AV}{K:St->Prop}(hb:bs[b]? =some (aN f z k l))(hx:l[i]? =some x)(hv:v=f y)(h:K ⟨e,bs.set b (aN f z k (l.set i y)),lo⟩):EsN z ⟨e,bs,lo⟩ b i z 0 v K:=by
 subst hv;refine⟨?_⟩;simp only[nR,lJ hp hb hx,Zi];have hi:=(zB.1 hx).1;have hmul:(i+1)*z<=l.length*z:=ZF _ hi;rw[ZN,yQ] at hmul;refine⟨⟨hk y,hp.sz y,hp.pos,by rw[zC,hp.len];omega⟩,?_⟩
 have he:setAt (cellsOf (l.map f)++List.replicate ((k-l.length)*z) AV.top) (i*z) (f y).cells=cellsOf ((l.set i y).map f)++List.replicate ((k-(l.set i y).length)*z) AV.top:=by
  apply Zr;intro j;rw[cR];have hl1:(cellsOf (l.map f)++List.replicate ((k-l.length)*z) AV.top).length=l.length*z+(k-l.length)*z:=by rw[zC,hp.len,zg]
  have hl2:(cellsOf ((l.set i y).map f)).length=l.length*z:=by rw[hp.len,zn]
  have hl3:(cellsOf (l.map f)).length=l.length*z:=hp.len l;have hset:(l.set i y)[i]? =some y:=by simp[hi]
  by_cases hj:j<l.length*z
  .have hq:j/z<l.length:=(Zu hp.pos).2 hj;have hr:j %z<z:=yX _ hp.pos;have hjj:j/z*z+j %z=j:=by have:=yK j z;rw[yT] at this;exact this
   by_cases hij:j/z=i
   .have hc1:i*z<=j/\j<i*z+(f y).cells.length/\j<(cellsOf (l.map f)++List.replicate ((k-l.length)*z) AV.top).length:=by
     rw[hp.sz,hl1];rw[hij] at hjj;omega
    rw[if_pos hc1];have:=pv (k:=k) (off:=j %z) hp hset hr;rw[<-hij,hjj] at this;rw[hij] at this;rw[this];congr 1;rw[hij] at hjj;omega
   .have hc1:¬(i*z<=j/\j<i*z+(f y).cells.length/\j<(cellsOf (l.map f)++List.replicate ((k-l.length)*z) AV.top).length):=by
     rintro⟨q1,q2,_⟩;rw[hp.sz] at q2;apply hij;refine Nat.div_eq_of_lt_le q1 ?_;rw[ZN,yQ];exact q2
    rw[if_neg hc1];have hx2:l[j/z]? =some l[j/z]:=zA hq;have hx3:(l.set i y)[j/z]? =some l[j/z]:=by rw[Zh (λe=>hij e.symm)];exact hx2
    have q1:=pv (k:=k) hp hx2 hr;have q2:=pv (k:=k) hp hx3 hr;rw[hjj] at q1 q2;rw[q1,q2]
  .have hc1:¬(i*z<=j/\j<i*z+(f y).cells.length/\j<(cellsOf (l.map f)++List.replicate ((k-l.length)*z) AV.top).length):=by
    rintro⟨q1,q2,_⟩;rw[hp.sz] at q2;omega
   rw[if_neg hc1,za (by omega),za (by omega),hl2,hl3,zn]
 rw[he];exact h
theorem u9.one(hp:Plain f z)(hk:∀x,aW (f x)=true/\(f x).flat=true){e:List (Nat×AV)}{bs:List Box}{lo:Nat}{x:α}{v:AV}{K:AV->St->Prop}(hv:v=f x)(h:K (.bsl bs.length 1 1) ⟨e,bs++[aN f z 1 [x]],lo⟩):u9 z [v] ⟨e,bs,lo⟩ K:=by
 subst hv;refine⟨.inl ⟨hp.pos,λv hv=>?_⟩,?_⟩
 .rw [zq] at hv;subst hv;exact⟨hk x,hp.sz x⟩
 .simpa [aN] using h
end
theorem u9.mpt{e:List (Nat×AV)}{bs:List Box}{lo c:Nat}{v:AV}{K:AV->St->Prop}(hv:v=.mpt c)(h:K (.bsl bs.length 1 1) ⟨e,bs++[aN AV.mpt 1 1 [c]],lo⟩):u9 1 [v] ⟨e,bs,lo⟩ K:=by
 subst hv;exact⟨.inr ⟨rfl,c,rfl⟩,by simpa[aN,cellsOf,AV.cells] using h⟩
theorem dp:∀(a b:List AV),cellsOf (a++b)=cellsOf a++cellsOf b
 |[],b=>rfl
 |x::a,b=>by simp only[zf,cellsOf,dp a b,zh]
theorem az.nZ{α:Type}{f:α->AV}{z:Nat}(hp:Plain f z){s t:St}(c i:Nat){cs:List AV}{b m k k0:Nat}{l:List α}(h0:s.bs[c]? =some (.cells cs))(hi:cs[i]? =some (.bsl b m k))(hb:s.bs[b]? =some (aN f z k0 l))(hm:m<=l.length)(h:az ⟨s.env,(s.bs.set b .dead).set c (.cells (cs.set i (.sl .no ((l.take m).map f)))),s.lo⟩ t):az s t:=⟨(au.nZ hp s c i h0 hi hb hm).trans h.out⟩
theorem iS{b:ByteArray}{n:Int}{K:Int->Prop}{y:UInt8}(k:K y.toNat)(h:b[n.toNat]? =some y:=by assumption)(h0:0<=n:=by omega):EV b n K:=⟨y,⟨h0,h⟩,k⟩
theorem gIs{b:ByteArray}{n:Int}{K:Int->Prop}(h:EV b n K):EV b n K:=h
theorem oko{p:Prop}(h:p:=by repeat' (first|exact rfl|exact sF plainN _ _|exact sF plainPr _ _|exact sF fL _ _|exact sF plainMsA _ _|refine G4 ?_ ?_|refine okO_none ?_|refine F8 ?_ ?_)):p:=h
theorem ah.ate{P:Program}{f:FuncId}{ae raw vals0:List AV}{bs bs0:List Box}{v:AV}{b:List Box}{K:AV->List Box->Prop}(is:List Nat)(h:Sem P f vals0 bs0 λr bs'=>r=v/\bs'=b)(hv0:raw.map (AV.rn (rho is))=vals0)(hb0:cut is bs is=bs0)(hK:K (v.rn (pie is bs.length)) (back is bs b))
  (hQ1:Nat.ble is.length b.length=true:=by rfl) (hQ2:v.atp (λk=>decide (k<b.length))=true:=by rfl) (hQ3:vu (λk=>decide (k<b.length)) b=true:=by exact oko) (hb:okO (sg is) bs (is.map some)=true:=by exact oko)
  (hnd:pC (is.map some)=true:=by rfl) (hin:ltO bs.length (is.map some)=true:=by rfl) (hv:raw.all (AV.atp (sg is))=true:=by rfl):ah P f ae raw bs K:=by
 refine ah.at is h hv0 hb0 ?_ hb ?_ hnd hin hv
 .rintro r bs' ⟨rfl,rfl⟩;exact⟨hQ1,hQ2,hQ3⟩
 .rintro r bs' ⟨rfl,rfl⟩;exact hK
end Go.AM
namespace Go.AM
open Go.CK Go.RowKit
section
variable{P:Program}
end
section
variable{P:Program}{nt:Nat}{fl:Bool}{ops:Array Oper}{E:Entry}{rd:Option Nat}{n:Nat}
end
end Go.AM
namespace Go.CK
end Go.CK
namespace Go.CK
open Go.AM Go.Proofs
open Go.AM Go.Proofs
open Go.AM Go.Proofs
open Go.AM Go.Proofs
def ee:List (List Tm×ByteArray)->Int->Bool
 |[],most=>decide (most<0)
 |a::l,most=>if most<0 then true else ee l (bg a.1 (most-1-(a.2.size:Int).tdiv 8) 64)
theorem Du(l:List (List Tm×ByteArray)){most:Int}(h:most<0):ee l most=true:=by
 cases l with
 |nil=>simpa[ee] using h
 |cons a l=>rw[ee,if_pos h]
theorem BA{l:List (List Tm×ByteArray)}{j:Nat}{x:List Tm×ByteArray}(hx:l[j]? =some x){most:Int}(h:0<=most):ee (l.drop j) most=ee (l.drop (j+1)) (bg x.1 (most-1-(x.2.size:Int).tdiv 8) 64):=by
 obtain⟨h1,rfl⟩:=zB.1 hx;rw[zH h1,ee,if_neg (by omega)]
def at2(a:At):List Tm×ByteArray:=(a.args,a.name)
theorem vp{l:List At}{most:Int}(b1:-1<=most)(b2:most<=100000):Fun Tryz.prog 37 [slA At.av l,.int .i64 most] (.bool (ee (l.map at2) most)):=by
 refine Fun.assume rfl λhg0=>?_;have hgs:=cO (hg0 (slA At.av l) (by simp))
 have hg:=hgs.1;have hml:(l.map at2).length=l.length:=by simp
 refine Fun.of (fN (by simp) ?_) rfl rfl
 conv=>whnf
 repeat' (first|(refine gC ?_;first|refine cY ?_|refine cN ?_|refine .not ?_|(refine gD ?_;first|refine cI ?_|refine cJ ?_|refine cIa ?_|refine cJa ?_|refine cIr ?_|refine cId ?_|refine cJd ?_)|refine cYa ?_|refine cNa ?_|with_reducible refine aj.and ?_|with_reducible refine aj.or ?_|refine aj.lt (λhc=>?_) (λhc=>?_)|refine aj.le (λhc=>?_) (λhc=>?_)|refine aj.dec (λhc=>?_) (λhc=>?_)|refine aj.any (λhc=>?_) (λhc=>?_))|refine gW (wI ?_)|(refine gL ?_;first|refine .map ?_|refine .nil ?_|refine .one ?_|refine .app ?_|refine .set ?_|refine .rep ?_|refine .any ?_)|refine gN (nS ?_)|(refine gI ?_;first|(refine gT ?_;first|refine iA ?_|refine iB ?_|refine iC λx hx=>?_|refine iD λx hx=>?_)|(refine gM ?_;first|refine iE ?_|refine iF ?_|refine iG ?_|refine iH λx hx=>?_|refine iI λx hx=>?_)|refine iG ?_|refine iJ ?_)|refine CB.mk ?_ ?_|refine gH (hB ?_)|refine gA (aP ?_)|(refine gB ?_;first|refine .last ?_|refine .last2 ?_)|refine dG.last ?_|refine dG.last2 ?_|(refine gE ?_;first|refine eL ?_|refine eLb ?_|refine eLn ?_)|(refine gS ?_;first|refine eS ?_|refine eSb ?_|refine eSn ?_)|(refine gP ?_;first|refine aR λk hk=>?_|refine aO λk hk=>?_|refine aOn λk hk=>?_)|(refine gZ ?_;refine zN λk hk=>?_)|(refine gMp ?_;first|refine mA ?_|refine mAq ?_)|(refine gMk ?_;first|refine mB ?_|refine mBb ?_)|(refine gPr ?_;first|refine pE ?_|refine pZ ?_|refine pT ?_|refine pN ?_|refine pN2 ?_|refine pS ?_)|(refine gMs ?_;first|refine mS (λhc=>?_) (λhc=>?_)|refine mEs ?_|refine mEn ?_|refine mE (λv hc=>?_) (λhc=>?_))|refine gEn (eN ?_)|refine gSt (sN ?_)|refine ai.nrm ?_|refine gIs (iS ?_))<;>conv=>whnf
 refine aJ.by (fb:=true) (λs (q:Nat×Int)=>s.oK [(1,.int .i64 q.2),(5,.int .i64 q.1)]) (λq=>q.1<=l.length/\(-1<=q.2/\q.2<=100000)/\ee ((l.map at2).drop q.1) q.2=ee (l.map at2) most) (λq=>l.length-q.1) (0,most) ⟨zJ _,by simp only;omega,rfl⟩ ?_ ?_
 .refine az.at_ ?_ rfl
  conv=>whnf
  refine And.intro ?_ ?_<;>conv=>whnf
  all_goals repeat' (first|(refine gV ?_;first|refine vE ?_|refine vI ?_|refine vB ?_|refine gK (vC ?_)|refine vN ?_|(refine WkN.sl ?_ ?_;(focus (simp[AV.norm,AV.bG,];done)))|((refine gK ?_;refine vD ?_ ?_);(focus (simp[AV.norm,AV.bG,];done)))|(refine WkN.norm ?_ ?_;(focus (simp[AV.norm,AV.bG,];done))))|(refine gX ?_;first|refine xB ?_|(refine BxN.mk ?_ ?_;(focus (simp[AV.norm,AV.bG,];done))))|exact True.intro)<;>conv=>whnf
 .rintro ⟨j,r⟩ ⟨hj,hr,he⟩;dsimp only at hj hr he|-
  by_cases hlt:j<l.length
  .obtain ⟨x,hx⟩:∃x,l[j]? =some x:=⟨_,zA hlt⟩;have hx2:(l.map at2)[j]? =some (at2 x):=by rw[ZG,hx];rfl
   have hxs:=(At.good (hgs.2 x (zE hx))).1
   by_cases hr0:0<=r
   .rw [BA hx2 hr0,show (at2 x).1=x.args from rfl,show (at2 x).2=x.name from rfl] at he;have hw:=Aj (.mk 0 0 .empty x.args) (r-1-(x.name.size:Int).tdiv 8) 64;rw[show (Tm.mk 0 0 .empty x.args).args=x.args from rfl] at hw;have h8:=pg x.name.size
    conv=>whnf
    repeat' (first|(refine gF ?_;refine ah.fn (sI (by omega) (by omega) (by omega) (by omega)) ?_)|(refine gG ?_;refine bO.fn (sI (by omega) (by omega) (by omega) (by omega)) ?_)|(refine gC ?_;first|refine cY ?_|refine cN ?_|refine .not ?_|(refine gD ?_;first|refine cI ?_|refine cJ ?_|refine cIa ?_|refine cJa ?_|refine cIr ?_|refine cId ?_|refine cJd ?_)|refine cYa ?_|refine cNa ?_|with_reducible refine aj.and ?_|with_reducible refine aj.or ?_|refine aj.lt (λhc=>?_) (λhc=>?_)|refine aj.le (λhc=>?_) (λhc=>?_)|refine aj.dec (λhc=>?_) (λhc=>?_)|refine aj.any (λhc=>?_) (λhc=>?_))|refine gW (wI ?_)|(refine gL ?_;first|refine .map ?_|refine .nil ?_|refine .one ?_|refine .app ?_|refine .set ?_|refine .rep ?_|refine .any ?_)|refine gN (nS ?_)|(refine gI ?_;first|(refine gT ?_;first|refine iA ?_|refine iB ?_|refine iC λx hx=>?_|refine iD λx hx=>?_)|(refine gM ?_;first|refine iE ?_|refine iF ?_|refine iG ?_|refine iH λx hx=>?_|refine iI λx hx=>?_)|refine iG ?_|refine iJ ?_)|refine CB.mk ?_ ?_|refine gH (hB ?_)|refine gA (aP ?_)|(refine gB ?_;first|refine .last ?_|refine .last2 ?_)|refine dG.last ?_|refine dG.last2 ?_|(refine gE ?_;first|refine eL ?_|refine eLb ?_|refine eLn ?_)|(refine gS ?_;first|refine eS ?_|refine eSb ?_|refine eSn ?_)|(refine gP ?_;first|refine aR λk hk=>?_|refine aO λk hk=>?_|refine aOn λk hk=>?_)|(refine gZ ?_;refine zN λk hk=>?_)|(refine gMp ?_;first|refine mA ?_|refine mAq ?_)|(refine gMk ?_;first|refine mB ?_|refine mBb ?_)|(refine gPr ?_;first|refine pE ?_|refine pZ ?_|refine pT ?_|refine pN ?_|refine pN2 ?_|refine pS ?_)|(refine gMs ?_;first|refine mS (λhc=>?_) (λhc=>?_)|refine mEs ?_|refine mEn ?_|refine mE (λv hc=>?_) (λhc=>?_))|refine gEn (eN ?_)|refine gSt (sN ?_)|refine ai.nrm ?_|refine gIs (iS ?_))<;>conv=>whnf
    refine⟨(j+1,bg x.args (r-1-(x.name.size:Int).tdiv 8) 64),⟨⟨hlt,?_,he⟩,by simp only;omega⟩,?_⟩
    .simp only;omega
    .refine az.at_ ?_ rfl
     conv=>whnf
     refine And.intro ?_ ?_<;>conv=>whnf
     all_goals repeat' (first|(refine gV ?_;first|refine vE ?_|refine vI ?_|refine vB ?_|refine gK (vC ?_)|refine vN ?_|(refine WkN.sl ?_ ?_;(focus (simp[AV.norm,AV.bG,];done)))|((refine gK ?_;refine vD ?_ ?_);(focus (simp[AV.norm,AV.bG,];done)))|(refine WkN.norm ?_ ?_;(focus (simp[AV.norm,AV.bG,];done))))|(refine gX ?_;first|refine xB ?_|(refine BxN.mk ?_ ?_;(focus (simp[AV.norm,AV.bG,];done))))|exact True.intro)<;>conv=>whnf
   .rw [Du _ (by omega)] at he
    conv=>whnf
    repeat' (first|(refine gC ?_;first|refine cY ?_|refine cN ?_|refine .not ?_|(refine gD ?_;first|refine cI ?_|refine cJ ?_|refine cIa ?_|refine cJa ?_|refine cIr ?_|refine cId ?_|refine cJd ?_)|refine cYa ?_|refine cNa ?_|with_reducible refine aj.and ?_|with_reducible refine aj.or ?_|refine aj.lt (λhc=>?_) (λhc=>?_)|refine aj.le (λhc=>?_) (λhc=>?_)|refine aj.dec (λhc=>?_) (λhc=>?_)|refine aj.any (λhc=>?_) (λhc=>?_))|refine gW (wI ?_)|(refine gL ?_;first|refine .map ?_|refine .nil ?_|refine .one ?_|refine .app ?_|refine .set ?_|refine .rep ?_|refine .any ?_)|refine gN (nS ?_)|(refine gI ?_;first|(refine gT ?_;first|refine iA ?_|refine iB ?_|refine iC λx hx=>?_|refine iD λx hx=>?_)|(refine gM ?_;first|refine iE ?_|refine iF ?_|refine iG ?_|refine iH λx hx=>?_|refine iI λx hx=>?_)|refine iG ?_|refine iJ ?_)|refine CB.mk ?_ ?_|refine gH (hB ?_)|refine gA (aP ?_)|(refine gB ?_;first|refine .last ?_|refine .last2 ?_)|refine dG.last ?_|refine dG.last2 ?_|(refine gE ?_;first|refine eL ?_|refine eLb ?_|refine eLn ?_)|(refine gS ?_;first|refine eS ?_|refine eSb ?_|refine eSn ?_)|(refine gP ?_;first|refine aR λk hk=>?_|refine aO λk hk=>?_|refine aOn λk hk=>?_)|(refine gZ ?_;refine zN λk hk=>?_)|(refine gMp ?_;first|refine mA ?_|refine mAq ?_)|(refine gMk ?_;first|refine mB ?_|refine mBb ?_)|(refine gPr ?_;first|refine pE ?_|refine pZ ?_|refine pT ?_|refine pN ?_|refine pN2 ?_|refine pS ?_)|(refine gMs ?_;first|refine mS (λhc=>?_) (λhc=>?_)|refine mEs ?_|refine mEn ?_|refine mE (λv hc=>?_) (λhc=>?_))|refine gEn (eN ?_)|refine gSt (sN ?_)|refine ai.nrm ?_|refine gIs (iS ?_))<;>conv=>whnf
    rw[<-he];simp;omega
  .have hje:j=l.length:=by omega
   subst hje;rw[<-hml,zk,ee] at he
   conv=>whnf
   repeat' (first|(refine gC ?_;first|refine cY ?_|refine cN ?_|refine .not ?_|(refine gD ?_;first|refine cI ?_|refine cJ ?_|refine cIa ?_|refine cJa ?_|refine cIr ?_|refine cId ?_|refine cJd ?_)|refine cYa ?_|refine cNa ?_|with_reducible refine aj.and ?_|with_reducible refine aj.or ?_|refine aj.lt (λhc=>?_) (λhc=>?_)|refine aj.le (λhc=>?_) (λhc=>?_)|refine aj.dec (λhc=>?_) (λhc=>?_)|refine aj.any (λhc=>?_) (λhc=>?_))|refine gW (wI ?_)|(refine gL ?_;first|refine .map ?_|refine .nil ?_|refine .one ?_|refine .app ?_|refine .set ?_|refine .rep ?_|refine .any ?_)|refine gN (nS ?_)|(refine gI ?_;first|(refine gT ?_;first|refine iA ?_|refine iB ?_|refine iC λx hx=>?_|refine iD λx hx=>?_)|(refine gM ?_;first|refine iE ?_|refine iF ?_|refine iG ?_|refine iH λx hx=>?_|refine iI λx hx=>?_)|refine iG ?_|refine iJ ?_)|refine CB.mk ?_ ?_|refine gH (hB ?_)|refine gA (aP ?_)|(refine gB ?_;first|refine .last ?_|refine .last2 ?_)|refine dG.last ?_|refine dG.last2 ?_|(refine gE ?_;first|refine eL ?_|refine eLb ?_|refine eLn ?_)|(refine gS ?_;first|refine eS ?_|refine eSb ?_|refine eSn ?_)|(refine gP ?_;first|refine aR λk hk=>?_|refine aO λk hk=>?_|refine aOn λk hk=>?_)|(refine gZ ?_;refine zN λk hk=>?_)|(refine gMp ?_;first|refine mA ?_|refine mAq ?_)|(refine gMk ?_;first|refine mB ?_|refine mBb ?_)|(refine gPr ?_;first|refine pE ?_|refine pZ ?_|refine pT ?_|refine pN ?_|refine pN2 ?_|refine pS ?_)|(refine gMs ?_;first|refine mS (λhc=>?_) (λhc=>?_)|refine mEs ?_|refine mEn ?_|refine mE (λv hc=>?_) (λhc=>?_))|refine gEn (eN ?_)|refine gSt (sN ?_)|refine ai.nrm ?_|refine gIs (iS ?_))<;>conv=>whnf
   rw[<-he]
end Go.CK
namespace Go.CK
end Go.CK
namespace Go.CK
end Go.CK
namespace Go.CK
end Go.CK
namespace Go.CK
end Go.CK
namespace Go.CK
end Go.CK
namespace Go.CK
end Go.CK
namespace Go.CK
end Go.CK
namespace Go.CK
end Go.CK
namespace Go.CK
end Go.CK
namespace Go.CK
end Go.CK
namespace Go.CK
end Go.CK
namespace Go.CK
end Go.CK
namespace Go.CK
end Go.CK
namespace Go.CK
end Go.CK
namespace Go.CK
end Go.CK
namespace Go.CK
end Go.CK
namespace Go.CK
end Go.CK
namespace Go.CK
end Go.CK
namespace Go.CK
end Go.CK
namespace Go.CK
end Go.CK
namespace Go.CK
end Go.CK
namespace Go.CK
end Go.CK
namespace Go.CK
end Go.CK
namespace Go.CK
end Go.CK
namespace Go.CK
end Go.CK
namespace Go.CK
end Go.CK
namespace Go.Proofs
open Go.Shelf
def Tryz.laysSort_ren:Go.Shelf.Ren:=⟨λ|189=>146|125=>194|257=>193|128=>226|129=>227|294=>218|295=>219|296=>220|297=>221|298=>222|299=>223|216=>155|300=>224|301=>225|328=>246|329=>247|330=>248|331=>249|332=>250|215=>152|343=>256|n=>n,λ|28=>41|3=>3|46=>223|0=>0|51=>281|53=>76|4=>4|183=>275|182=>274|131=>111|5=>5|9=>9|218=>295|222=>299|228=>301|229=>302|n=>n,λ|n=>n⟩
theorem Tryz.Bi:Go.Proofs.Lays.n189 Tryz.prog Tryz.laysSort_ren:={
 mixed:=by kernel_rfl,
 f125:=Tryz.func194.trans (congrArg some (by kernel_rfl)),
 f128:=Tryz.func226.trans (congrArg some (by kernel_rfl)),
 f129:=Tryz.func227.trans (congrArg some (by kernel_rfl)),
 f189:=Tryz.func146.trans (congrArg some (by kernel_rfl)),
 f215:=Tryz.func152.trans (congrArg some (by kernel_rfl)),
 f216:=Tryz.func155.trans (congrArg some (by kernel_rfl)),
 f257:=Tryz.func193.trans (congrArg some (by kernel_rfl)),
 f294:=Tryz.func218.trans (congrArg some (by kernel_rfl)),
 f295:=Tryz.func219.trans (congrArg some (by kernel_rfl)),
 f296:=Tryz.func220.trans (congrArg some (by kernel_rfl)),
 f297:=Tryz.func221.trans (congrArg some (by kernel_rfl)),
 f298:=Tryz.func222.trans (congrArg some (by kernel_rfl)),
 f299:=Tryz.func223.trans (congrArg some (by kernel_rfl)),
 f300:=Tryz.func224.trans (congrArg some (by kernel_rfl)),
 f301:=Tryz.func225.trans (congrArg some (by kernel_rfl)),
 f328:=Tryz.func246.trans (congrArg some (by kernel_rfl)),
 f329:=Tryz.func247.trans (congrArg some (by kernel_rfl)),
 f330:=Tryz.func248.trans (congrArg some (by kernel_rfl)),
 f331:=Tryz.func249.trans (congrArg some (by kernel_rfl)),
 f332:=Tryz.func250.trans (congrArg some (by kernel_rfl)),
 f343:=Tryz.func256.trans (congrArg some (by kernel_rfl)),
 t0:=Tryz.underlying0,
 a0:=Tryz.isAgg0,
 z0:=Tryz.sizeOf0,
 v0:=Tryz.zeroValue0,
 t3:=Tryz.underlying3,
 a3:=Tryz.isAgg3,
 z3:=Tryz.sizeOf3,
 v3:=Tryz.zeroValue3,
 t4:=Tryz.underlying4,
 a4:=Tryz.isAgg4,
 z4:=Tryz.sizeOf4,
 v4:=Tryz.zeroValue4,
 t5:=Tryz.underlying5,
 a5:=Tryz.isAgg5,
 z5:=Tryz.sizeOf5,
 v5:=Tryz.zeroValue5,
 t9:=Tryz.underlying9,
 a9:=Tryz.isAgg9,
 z9:=Tryz.sizeOf9,
 v9:=Tryz.zeroValue9,
 t28:=Tryz.underlying41,
 a28:=Tryz.isAgg41,
 z28:=Tryz.sizeOf41,
 v28:=Tryz.zeroValue41,
 t46:=Tryz.underlying223,
 a46:=Tryz.isAgg223,
 z46:=Tryz.sizeOf223,
 v46:=Tryz.zeroValue223,
 t51:=Tryz.underlying281,
 a51:=Tryz.isAgg281,
 z51:=Tryz.sizeOf281,
 v51:=Tryz.zeroValue281,
 t53:=Tryz.underlying76,
 a53:=Tryz.isAgg76,
 z53:=Tryz.sizeOf76,
 v53:=Tryz.zeroValue76,
 t131:=Tryz.underlying111,
 a131:=Tryz.isAgg111,
 z131:=Tryz.sizeOf111,
 v131:=Tryz.zeroValue111,
 t182:=Tryz.underlying274,
 a182:=Tryz.isAgg274,
 z182:=Tryz.sizeOf274,
 v182:=Tryz.zeroValue274,
 t183:=Tryz.underlying275,
 a183:=Tryz.isAgg275,
 z183:=Tryz.sizeOf275,
 v183:=Tryz.zeroValue275,
 t218:=Tryz.underlying295,
 a218:=Tryz.isAgg295,
 z218:=Tryz.sizeOf295,
 v218:=Tryz.zeroValue295,
 t222:=Tryz.underlying299,
 a222:=Tryz.isAgg299,
 z222:=Tryz.sizeOf299,
 v222:=Tryz.zeroValue299,
 t228:=Tryz.underlying301,
 a228:=Tryz.isAgg301,
 z228:=Tryz.sizeOf301,
 v228:=Tryz.zeroValue301,
 t229:=Tryz.underlying302,
 a229:=Tryz.isAgg302,
 z229:=Tryz.sizeOf302,
 v229:=Tryz.zeroValue302}
def Tryz.laysContains_ren:Go.Shelf.Ren:=⟨λ|144=>232|143=>253|219=>259|217=>265|225=>266|224=>267|267=>268|266=>273|314=>274|n=>n,λ|9=>9|4=>4|3=>3|5=>5|46=>223|146=>316|51=>281|n=>n,λ|1=>0|n=>n⟩
theorem Tryz.yj:Go.Proofs.Lays.n144 Tryz.prog Tryz.laysContains_ren:={
 mixed:=by kernel_rfl,
 f143:=Tryz.func253.trans (congrArg some (by kernel_rfl)),
 f144:=Tryz.func232.trans (congrArg some (by kernel_rfl)),
 f217:=Tryz.func265.trans (congrArg some (by kernel_rfl)),
 f219:=Tryz.func259.trans (congrArg some (by kernel_rfl)),
 f224:=Tryz.func267.trans (congrArg some (by kernel_rfl)),
 f225:=Tryz.func266.trans (congrArg some (by kernel_rfl)),
 f266:=Tryz.func273.trans (congrArg some (by kernel_rfl)),
 f267:=Tryz.func268.trans (congrArg some (by kernel_rfl)),
 f314:=Tryz.func274.trans (congrArg some (by kernel_rfl)),
 t3:=Tryz.underlying3,
 a3:=Tryz.isAgg3,
 z3:=Tryz.sizeOf3,
 v3:=Tryz.zeroValue3,
 t4:=Tryz.underlying4,
 a4:=Tryz.isAgg4,
 z4:=Tryz.sizeOf4,
 v4:=Tryz.zeroValue4,
 t5:=Tryz.underlying5,
 a5:=Tryz.isAgg5,
 z5:=Tryz.sizeOf5,
 v5:=Tryz.zeroValue5,
 t9:=Tryz.underlying9,
 a9:=Tryz.isAgg9,
 z9:=Tryz.sizeOf9,
 v9:=Tryz.zeroValue9,
 t46:=Tryz.underlying223,
 a46:=Tryz.isAgg223,
 z46:=Tryz.sizeOf223,
 v46:=Tryz.zeroValue223,
 t51:=Tryz.underlying281,
 a51:=Tryz.isAgg281,
 z51:=Tryz.sizeOf281,
 v51:=Tryz.zeroValue281,
 t146:=Tryz.underlying316,
 a146:=Tryz.isAgg316,
 z146:=Tryz.sizeOf316,
 v146:=Tryz.zeroValue316,
 g1:=by kernel_rfl}
def Tryz.laysIndexFunc_ren:Go.Shelf.Ren:=⟨λ|15=>196|20=>228|n=>n,λ|9=>9|23=>258|3=>3|4=>4|0=>0|21=>21|n=>n,λ|n=>n⟩
theorem Tryz.vn:Go.Proofs.LaysGw.n15 Tryz.prog Tryz.laysIndexFunc_ren:={
 mixed:=by kernel_rfl,
 f15:=Tryz.func196.trans (congrArg some (by kernel_rfl)),
 f20:=Tryz.func228.trans (congrArg some (by kernel_rfl)),
 t0:=Tryz.underlying0,
 a0:=Tryz.isAgg0,
 z0:=Tryz.sizeOf0,
 v0:=Tryz.zeroValue0,
 i0:=by kernel_rfl,
 t3:=Tryz.underlying3,
 a3:=Tryz.isAgg3,
 z3:=Tryz.sizeOf3,
 v3:=Tryz.zeroValue3,
 i3:=by kernel_rfl,
 t4:=Tryz.underlying4,
 a4:=Tryz.isAgg4,
 z4:=Tryz.sizeOf4,
 v4:=Tryz.zeroValue4,
 i4:=by kernel_rfl,
 t9:=Tryz.underlying9,
 a9:=Tryz.isAgg9,
 z9:=Tryz.sizeOf9,
 v9:=Tryz.zeroValue9,
 i9:=by kernel_rfl,
 t21:=Tryz.underlying21,
 a21:=Tryz.isAgg21,
 z21:=Tryz.sizeOf21,
 v21:=Tryz.zeroValue21,
 i21:=by kernel_rfl,
 t23:=Tryz.underlying258,
 a23:=Tryz.isAgg258,
 z23:=Tryz.sizeOf258,
 v23:=Tryz.zeroValue258,
 i23:=by kernel_rfl}
def Tryz.laysM171_ren:Go.Shelf.Ren:=⟨λ|171=>231|243=>252|246=>258|283=>261|284=>262|285=>263|286=>264|129=>227|317=>269|318=>270|319=>271|320=>272|337=>275|338=>276|n=>n,λ|3=>3|9=>9|2=>2|4=>4|171=>308|0=>0|53=>76|37=>158|5=>5|173=>310|212=>314|51=>281|20=>20|213=>315|46=>223|232=>318|233=>319|n=>n,λ|17=>1|18=>2|19=>3|n=>n⟩
theorem Tryz.Hj:Go.Proofs.LaysM.n171 Tryz.prog Tryz.laysM171_ren:={
 mixed:=by kernel_rfl,
 f129:=Tryz.func227.trans (congrArg some (by kernel_rfl)),
 f171:=Tryz.func231.trans (congrArg some (by kernel_rfl)),
 f243:=Tryz.func252.trans (congrArg some (by kernel_rfl)),
 f246:=Tryz.func258.trans (congrArg some (by kernel_rfl)),
 f283:=Tryz.func261.trans (congrArg some (by kernel_rfl)),
 f284:=Tryz.func262.trans (congrArg some (by kernel_rfl)),
 f285:=Tryz.func263.trans (congrArg some (by kernel_rfl)),
 f286:=Tryz.func264.trans (congrArg some (by kernel_rfl)),
 f317:=Tryz.func269.trans (congrArg some (by kernel_rfl)),
 f318:=Tryz.func270.trans (congrArg some (by kernel_rfl)),
 f319:=Tryz.func271.trans (congrArg some (by kernel_rfl)),
 f320:=Tryz.func272.trans (congrArg some (by kernel_rfl)),
 f337:=Tryz.func275.trans (congrArg some (by kernel_rfl)),
 f338:=Tryz.func276.trans (congrArg some (by kernel_rfl)),
 t0:=Tryz.underlying0,
 a0:=Tryz.isAgg0,
 z0:=Tryz.sizeOf0,
 v0:=Tryz.zeroValue0,
 t2:=Tryz.underlying2,
 a2:=Tryz.isAgg2,
 z2:=Tryz.sizeOf2,
 v2:=Tryz.zeroValue2,
 t3:=Tryz.underlying3,
 a3:=Tryz.isAgg3,
 z3:=Tryz.sizeOf3,
 v3:=Tryz.zeroValue3,
 t4:=Tryz.underlying4,
 a4:=Tryz.isAgg4,
 z4:=Tryz.sizeOf4,
 v4:=Tryz.zeroValue4,
 t5:=Tryz.underlying5,
 a5:=Tryz.isAgg5,
 z5:=Tryz.sizeOf5,
 v5:=Tryz.zeroValue5,
 t9:=Tryz.underlying9,
 a9:=Tryz.isAgg9,
 z9:=Tryz.sizeOf9,
 v9:=Tryz.zeroValue9,
 t20:=Tryz.underlying20,
 a20:=Tryz.isAgg20,
 z20:=Tryz.sizeOf20,
 v20:=Tryz.zeroValue20,
 t37:=Tryz.underlying158,
 a37:=Tryz.isAgg158,
 z37:=Tryz.sizeOf158,
 v37:=Tryz.zeroValue158,
 t46:=Tryz.underlying223,
 a46:=Tryz.isAgg223,
 z46:=Tryz.sizeOf223,
 v46:=Tryz.zeroValue223,
 t51:=Tryz.underlying281,
 a51:=Tryz.isAgg281,
 z51:=Tryz.sizeOf281,
 v51:=Tryz.zeroValue281,
 t53:=Tryz.underlying76,
 a53:=Tryz.isAgg76,
 z53:=Tryz.sizeOf76,
 v53:=Tryz.zeroValue76,
 t171:=Tryz.underlying308,
 a171:=Tryz.isAgg308,
 z171:=Tryz.sizeOf308,
 v171:=Tryz.zeroValue308,
 t173:=Tryz.underlying310,
 a173:=Tryz.isAgg310,
 z173:=Tryz.sizeOf310,
 v173:=Tryz.zeroValue310,
 t212:=Tryz.underlying314,
 a212:=Tryz.isAgg314,
 z212:=Tryz.sizeOf314,
 v212:=Tryz.zeroValue314,
 t213:=Tryz.underlying315,
 a213:=Tryz.isAgg315,
 z213:=Tryz.sizeOf315,
 t232:=Tryz.underlying318,
 a232:=Tryz.isAgg318,
 z232:=Tryz.sizeOf318,
 v232:=Tryz.zeroValue318,
 t233:=Tryz.underlying319,
 a233:=Tryz.isAgg319,
 z233:=Tryz.sizeOf319,
 v233:=Tryz.zeroValue319,
 g17:=by kernel_rfl,
 g18:=by kernel_rfl,
 g19:=by kernel_rfl,
 i0:=by kernel_rfl,
 i2:=by kernel_rfl,
 i3:=by kernel_rfl,
 i4:=by kernel_rfl,
 i5:=by kernel_rfl,
 i9:=by kernel_rfl,
 i20:=by kernel_rfl,
 i37:=by kernel_rfl,
 i46:=by kernel_rfl,
 i51:=by kernel_rfl,
 i53:=by kernel_rfl,
 i171:=by kernel_rfl,
 i173:=by kernel_rfl,
 i212:=by kernel_rfl,
 i232:=by kernel_rfl,
 i233:=by kernel_rfl,
 m17:=by kernel_rfl,
 m18:=by kernel_rfl,
 m19:=by kernel_rfl}
def Tryz.laysInsert_ren:Go.Shelf.Ren:=⟨λ|21=>106|27=>157|28=>158|35=>202|39=>233|n=>n,λ|22=>41|3=>3|4=>4|0=>0|n=>n,λ|n=>n⟩
theorem Tryz.iV:Go.Proofs.Lays2.n21 Tryz.prog Tryz.laysInsert_ren:={
 mixed:=by kernel_rfl,
 f21:=Tryz.func106.trans (congrArg some (by kernel_rfl)),
 f27:=Tryz.func157.trans (congrArg some (by kernel_rfl)),
 f28:=Tryz.func158.trans (congrArg some (by kernel_rfl)),
 f35:=Tryz.func202.trans (congrArg some (by kernel_rfl)),
 f39:=Tryz.func233.trans (congrArg some (by kernel_rfl)),
 t0:=Tryz.underlying0,
 a0:=Tryz.isAgg0,
 z0:=Tryz.sizeOf0,
 v0:=Tryz.zeroValue0,
 t3:=Tryz.underlying3,
 a3:=Tryz.isAgg3,
 z3:=Tryz.sizeOf3,
 v3:=Tryz.zeroValue3,
 t4:=Tryz.underlying4,
 a4:=Tryz.isAgg4,
 z4:=Tryz.sizeOf4,
 v4:=Tryz.zeroValue4,
 t22:=Tryz.underlying41,
 a22:=Tryz.isAgg41,
 z22:=Tryz.sizeOf41,
 v22:=Tryz.zeroValue41,
 i3:=by kernel_rfl}
def Tryz.laysSorted_ren:Go.Shelf.Ren:=⟨λ|6=>91|8=>145|9=>146|11=>192|13=>194|12=>193|23=>226|24=>227|14=>218|15=>219|16=>220|17=>221|18=>222|19=>223|20=>155|21=>224|22=>225|25=>246|26=>247|27=>248|28=>249|29=>250|30=>152|31=>256|n=>n,λ|26=>3|28=>152|24=>41|0=>0|3=>3|37=>223|48=>281|50=>76|4=>4|40=>275|39=>274|45=>111|5=>5|9=>9|51=>295|55=>299|57=>301|58=>302|33=>45|n=>n,λ|n=>n⟩
theorem Tryz.Di:Go.Proofs.SlLaysZI.n6 Tryz.prog Tryz.laysSorted_ren:={
 mixed:=by kernel_rfl,
 f6 := ⟨ "slices.Sorted[int]", by decide, Tryz.func91.trans (congrArg some (by kernel_rfl))⟩,
 f8 := ⟨ "slices.Collect[int]", by decide, Tryz.func145.trans (congrArg some (by kernel_rfl))⟩,
 f11 := ⟨ "slices.AppendSeq[[]int,int]", by decide, Tryz.func192.trans (congrArg some (by kernel_rfl))⟩,
 t0:=Tryz.underlying0,
 a0:=Tryz.isAgg0,
 z0:=Tryz.sizeOf0,
 v0:=Tryz.zeroValue0,
 t24:=Tryz.underlying41,
 a24:=Tryz.isAgg41,
 z24:=Tryz.sizeOf41,
 v24:=Tryz.zeroValue41,
 t26:=Tryz.underlying3,
 a26:=Tryz.isAgg3,
 z26:=Tryz.sizeOf3,
 v26:=Tryz.zeroValue3,
 t28:=Tryz.underlying152,
 a28:=Tryz.isAgg152,
 z28:=Tryz.sizeOf152,
 v28:=Tryz.zeroValue152,
 i26:=by kernel_rfl}
end Go.Proofs
namespace Go.CK
end Go.CK
