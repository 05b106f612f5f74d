/-
  By an AI agent.
-/
import Derived.Test.YtcjfkbdbcgmomaaGreatDoorQaw
set_option linter.unusedSimpArgs false
set_option linter.unusedVariables false
namespace Go.AM
open Go.CK Go.RowKit
namespace AV
def rn0(f:Nat->Nat):AV->AV
 |.ptr b o=>.ptr (f b) o
 |.yl b=>.yl (f b)
 |.bsl b m k=>.bsl (f b) m k
 |.elp b i z o=>.elp (f b) i z o
 |.mpt b=>.mpt (f b)
 |x=>x
def rn1(f:Nat->Nat):AV->AV
 |.fn g xs ys=>.fn g (xs.map (rn0 f)) (ys.map (rn0 f))
 |x=>x.rn0 f
def rn2(f:Nat->Nat):AV->AV
 |.agg cs=>.agg (cs.map (rn1 f))
 |x=>x.rn1 f
def rn(f:Nat->Nat):AV->AV
 |.agg cs=>.agg (cs.map (rn1 f))
 |.tup cs=>.tup (cs.map (rn2 f))
 |x=>x.rn1 f
def at0(p:Nat->Bool):AV->Bool
 |.ptr b _=>p b
 |.yl b=>p b
 |.bsl b _ _=>p b
 |.elp b _ _ _=>p b
 |.mpt b=>p b
 |.ept _=>true
 |v=>v.aZ
def at1(p:Nat->Bool):AV->Bool
 |.fn _ xs ys=>xs.all (at0 p)&&ys.all (at0 p)
 |v=>v.at0 p
def at2(p:Nat->Bool):AV->Bool
 |.agg cs=>cs.all (at1 p)
 |v=>v.at1 p
def atp(p:Nat->Bool):AV->Bool
 |.agg cs=>cs.all (at1 p)
 |.tup cs=>cs.all (at2 p)
 |.ept _=>true
 |.sl _ _=>true
 |v=>v.at1 p
end AV
section
variable{M:Hp}{σ σ':Nat->Nat}{n n':Nat}{f:Nat->Nat}{p:Nat->Bool}
theorem RV.rn0(e:∀b,p b=true->b<n->σ' (f b)=σ b/\f b<n'){x:AV}{v:Value}(h:RV M σ n x v)(hp:x.at0 p=true):RV M σ' n' (x.rn0 f) v:=by
 cases x<;>simp only[AV.at0] at hp<;>simp only[AV.rn0]<;>first|exact .flat (h.aZ hp)|skip
 case ptr b o=>obtain⟨rfl,hb⟩:=h.hR;obtain⟨d,c⟩:=e b hp hb;rw[<-d];exact .ptr _ _ c
 case ept cs=>obtain⟨B,off,rfl,g⟩:=h.qH;exact .ept cs B off g
 case yl b=>obtain⟨rfl,hb⟩:=h.Km;obtain⟨d,c⟩:=e b hp hb;rw[<-d];exact .yl _ c
 case bsl b m k=>obtain⟨a,rfl,hb,q,l,j⟩:=h.cj;obtain⟨d,c⟩:=e b hp hb;exact .bsl _ _ _ a c q l (by rw[d];exact j)
 case elp b i z o=>obtain⟨rfl,hb⟩:=h.qJ;obtain⟨d,c⟩:=e b hp hb;rw[<-d];exact .elp _ _ _ _ c
 case mpt b=>obtain⟨rfl,hb⟩:=h.ft;obtain⟨d,c⟩:=e b hp hb;rw[<-d];exact .mpt _ c
theorem RV.rn1(d:∀b,p b=true->b<n->σ' (f b)=σ b/\f b<n'){x:AV}{v:Value}(h:RV M σ n x v)(hp:x.at1 p=true):RV M σ' n' (x.rn1 f) v:=by
 cases x<;>first|exact RV.rn0 d h hp|skip
 case fn g xs ys=>
  simp only[AV.at1,zD,zS] at hp;obtain⟨us,vs,rfl,l,k,i,e⟩:=h.rZ;refine .fn g _ _ us vs (by simpa using l) (by simpa using k) (λj a v c=>?_) (λj a v c=>?_)
  .simp only[zF] at a;rw[ZD];exact RV.rn0 d (i j a v c) (hp.1 _ (zc a))
  .simp only[zF] at a;rw[ZD];exact RV.rn0 d (e j a v c) (hp.2 _ (zc a))
theorem RV.MN(g:∀b,p b=true->b<n->σ' (f b)=σ b/\f b<n'){cs:List AV}{v:Value}(h:RV M σ n (.agg cs) v)(hp:cs.all (AV.at1 p)=true):RV M σ' n' (.agg (cs.map (AV.rn1 f))) v:=by
 simp only[zS] at hp;obtain⟨vs,rfl,e,i,d⟩:=h.eD;refine .agg _ vs (by simpa using e) i λj c v a=>?_
 simp only[zF] at c;rw[ZD];exact RV.rn1 g (d j c v a) (hp _ (zc c))
theorem RV.rn2(a:∀b,p b=true->b<n->σ' (f b)=σ b/\f b<n'){x:AV}{v:Value}(h:RV M σ n x v)(hp:x.at2 p=true):RV M σ' n' (x.rn2 f) v:=by
 cases x<;>first|exact RV.rn1 a h hp|exact RV.MN a h hp
theorem RV.rn(d:∀b,p b=true->b<n->σ' (f b)=σ b/\f b<n'){x:AV}{v:Value}(h:RV M σ n x v)(hp:x.atp p=true):RV M σ' n' (x.rn f) v:=by
 cases x<;>first|exact RV.rn1 d h hp|exact RV.MN d h hp|skip
 case sl o l=>
  cases h with|flat h=>exact .flat h
 case tup cs=>
  simp only[AV.atp,zS] at hp;obtain⟨vs,rfl,g,e⟩:=h.tK;refine .tup _ vs (by simpa using g) λj c v a=>?_
  simp only[zF] at c;rw[ZD];exact RV.rn2 d (e j c v a) (hp _ (zc c))
end
theorem nh(f:Nat->Nat)(x:AV):(x.rn f).aI=x.aI.rn f:=by
 cases x with
 |sl o l=>cases o<;>rfl
 |_=>rfl
theorem lJ(p:Nat->Bool)(x:AV):x.aI.atp p=x.atp p:=by
 cases x with
 |sl o l=>cases o<;>rfl
 |_=>rfl
theorem uo{f:Nat->Nat}{x:AV}{z:Nat}{l:List AV}(h:x.rn f=.sl (.own z) l):x=.sl (.own z) l:=by
 cases x<;>simp only[AV.rn,AV.rn1,AV.rn0] at h<;>first|exact h|cases h
theorem Nr{f:Nat->Nat}{x:AV}(h:x.aZ=true):x.rn f=x:=by
 cases x<;>first|rfl|(simp[AV.aZ] at h)
def rnB(f:Nat->Nat):Box->Box
 |.cells cs=>.cells (cs.map (AV.rn f))
 |x=>x
def atB(p:Nat->Bool):Box->Bool
 |.cells cs=>cs.all (AV.atp p)
 |.row cs=>cs.all AV.aZ
 |.loop _=>false
 |_=>true
def xn(p:Nat->Bool):List Box->Bool
 |[]=>true
 |x::r=>atB p x&&xn p r
theorem Ea{p:Nat->Bool}:∀{bs:List Box} {k:Nat} {x:Box},xn p bs=true->bs[k]? =some x->atB p x=true
 |y::r,0,x,h,hk=>by
  simp only[xn,zD] at h
  simp at hk;subst hk;exact h.1
 |y::r,k+1,x,h,hk=>by
  simp only[xn,zD] at h
  exact Ea h.2 (by simpa using hk)
 |[],k,x,_,hk=>by simp at hk
def rX:List Nat->Nat->Nat->Option Nat
 |[],_,_=>none
 |i::is,b,k=>match Nat.beq i b with
  |true=>some k
  |false=>rX is b (k+1)
theorem il:∀{is:List Nat} {b k q:Nat},rX is b k=some q->k<=q/\is[q-k]? =some b
 |i::is,b,k,q,h=>by
  simp only[rX] at h;split at h
  .rename_i hb;cases h;have:=zO hb;subst this;simp
  .obtain ⟨c,a⟩:=il h;refine⟨by omega,?_⟩
   rw[show q-k=(q-(k+1))+1 by omega]
   simpa using a
theorem rW:∀{is:List Nat} {b k:Nat},rX is b k=none->b∉is
 |[],b,k,_,hm=>by cases hm
 |i::is,b,k,h,hm=>by
  simp only[rX] at h;split at h
  .cases h
  .rename_i hb;rcases zI.1 hm with rfl|hm
   .simp at hb
   .exact rW h hm
theorem vq{is:List Nat}(c:is.Nodup){k b:Nat}(h:is[k]? =some b):rX is b 0=some k:=by
 cases d:rX is b 0 with
 |none=>exact absurd (zE h) (rW d)
 |some q=>
  obtain⟨_,e⟩:=il d;rw[yB] at e;obtain⟨hk,f⟩:=zB.1 h;obtain⟨a,eq⟩:=zB.1 e;have:=(List.getElem_inj (h₀:=a) (h₁:=hk) c).1 (eq.trans f.symm);rw[this]
def tB(is:List Nat)(b:Nat):Bool:=match rX is b 0 with
 |some _=>true
 |none=>false
def rho(is:List Nat)(b:Nat):Nat:=match rX is b 0 with
 |some k=>k
 |none=>0
def ve:List Nat->Nat->Option Nat
 |[],_=>none
 |i::_,0=>some i
 |_::is,k+1=>ve is k
theorem iT:∀(is:List Nat) (k:Nat),ve is k=is[k]?
 |[],k=>by simp[ve]
 |i::is,0=>rfl
 |i::is,k+1=>by simp[ve,iT is k]
def pie(is:List Nat)(N:Nat)(k:Nat):Nat:=match ve is k with
 |some b=>b
 |none=>N+(k-is.length)
def jG:List Box->Nat->Box
 |[],_=>.dead
 |x::_,0=>x
 |_::r,k+1=>jG r k
theorem lH:∀{bs:List Box} {k:Nat} {x:Box},bs[k]? =some x->jG bs k=x
 |[],k,x,h=>by simp at h
 |y::r,0,x,h=>by simpa[jG] using h
 |y::r,k+1,x,h=>by simpa[jG] using lH (bs:=r) (k:=k) (by simpa using h)
def cut(is:List Nat)(cur:List Box):List Nat->List Box
 |[]=>[]
 |i::l=>rnB (rho is) (jG cur i)::cut is cur l
theorem G4(is:List Nat)(cur:List Box):∀(l:List Nat) (k:Nat),(cut is cur l)[k]? =(l[k]?).map λi=>rnB (rho is) (jG cur i)
 |[],k=>by simp[cut]
 |i::l,0=>by simp[cut]
 |i::l,k+1=>by simp[cut,G4 is cur l k]
theorem vV(is:List Nat)(cur:List Box):∀l:List Nat,(cut is cur l).length=l.length
 |[]=>rfl
 |i::l=>by simp[cut,vV is cur l]
def s6(is:List Nat)(N:Nat)(bs':List Box):Nat->List Box->List Box
 |_,[]=>[]
 |b,x::r=>(match rX is b 0 with
  |some k=>rnB (pie is N) (jG bs' k)
  |none=>x)::s6 is N bs' (b+1) r
def tu(f:Nat->Nat):Nat->List Box->List Box
 |_,[]=>[]
 |0,x::r=>rnB f x::tu f 0 r
 |n+1,_::r=>tu f n r
def back(is:List Nat)(cur bs':List Box):List Box:=s6 is cur.length bs' 0 cur++tu (pie is cur.length) is.length bs'
theorem eN(is:List Nat)(N:Nat)(bs':List Box):∀(cur:List Box) (b:Nat),(s6 is N bs' b cur).length=cur.length
 |[],b=>rfl
 |x::r,b=>by simp[s6,eN is N bs' r]
theorem yq(is:List Nat)(N:Nat)(bs':List Box):∀(cur:List Box) (b k:Nat),(s6 is N bs' b cur)[k]? =(cur[k]?).map λx=>match rX is (b+k) 0 with
  |some q=>rnB (pie is N) (jG bs' q)
  |none=>x
 |[],b,k=>by simp[s6]
 |x::r,b,0=>by simp[s6]
 |x::r,b,k+1=>by
  simp only[s6,List.getElem?_cons_succ,yq is N bs' r];rw[show b+1+k=b+(k+1) by omega]
theorem vd(f:Nat->Nat):∀(bs':List Box) (n k:Nat),(tu f n bs')[k]? =(bs'[n+k]?).map (rnB f)
 |[],n,k=>by cases n<;>simp[tu]
 |x::r,0,0=>by simp[tu]
 |x::r,0,k+1=>by simpa[tu] using vd f r 0 k
 |x::r,n+1,k=>by
  simp only[tu,vd f r n k];rw[show n+1+k=(n+k)+1 by omega]
  simp
theorem nE(f:Nat->Nat):∀(bs':List Box) (n:Nat),(tu f n bs').length=bs'.length-n
 |[],n=>by cases n<;>simp[tu]
 |x::r,0=>by simp[tu,nE f r 0]
 |x::r,n+1=>by simp[tu,nE f r n]
theorem DR(is:List Nat)(cur bs':List Box):(back is cur bs').length=cur.length+(bs'.length-is.length):=by
 simp[back,eN,nE]
def bq(is:List Nat)(N:Nat)(b:Nat):Option Nat:=if b<N then rX is b 0 else some (is.length+(b-N))
theorem Ld(is:List Nat)(cur bs':List Box)(b:Nat):(∀k,bq is cur.length b=some k->k<bs'.length->(back is cur bs')[b]? =(bs'[k]?).map (rnB (pie is cur.length)))/\(bq is cur.length b=none->(back is cur bs')[b]? =cur[b]?):=by
 unfold bq back
 by_cases hb:b<cur.length
 .simp only[if_pos hb];rw[zK (by rw[eN];exact hb),yq,ZI,zA hb]
  refine⟨λk hk a=>?_,λhk=>?_⟩
  .rw [hk,zA a];simp only[zM];rw[lH (zA a)]
  .rw [hk];rfl
 .simp only[if_neg hb];refine⟨λk hk a=>?_,λhk=>by cases hk⟩
  cases hk;rw[zZ (by rw[eN];omega),eN,vd]
theorem GC{is:List Nat}{N b k:Nat}(h:bq is N b=some k)(c:∀i∈is,i<N):pie is N k=b:=by
 unfold bq at h;unfold pie;rw[iT]
 by_cases hb:b<N
 .rw [if_pos hb] at h;obtain⟨_,a⟩:=il h;rw[yB] at a;rw[a]
 .rw [if_neg hb] at h;cases h;rw[zR (by omega)]
  simp only;omega
theorem LL{is:List Nat}{N:Nat}(a:is.Nodup)(c:∀i∈is,i<N)(k:Nat):bq is N (pie is N k)=some k:=by
 unfold pie;rw[iT]
 cases hk:is[k]? with
 |some b=>
  simp only[bq]
  rw[if_pos (c b (zE hk)),vq a hk]
 |none=>
  have hlen:is.length<=k:=by
   rcases zt k is.length with h|h
   .rw [zA h] at hk;cases hk
   .exact h
  simp only[bq];rw[if_neg (by omega)]
  congr 1;omega
theorem EB(f:Nat->Nat){p:Nat->Bool}{x:Box}(h:atB p x=true):(rnB f x).cs? =x.cs?.map (List.map (AV.rn f)):=by
 cases x<;>first|rfl|skip
 case row cs=>
  simp only[atB,zS] at h
  cases cs with
  |nil=>rfl
  |cons c cs=>
   show some (c::cs)=some ((c::cs).map (AV.rn f));congr 1;exact((List.map_congr_left λy a=>Nr (h y a)).trans (List.map_id' _)).symm
theorem EA(f:Nat->Nat)(x:Box):(rnB f x).lb? =x.lb?:=by cases x<;>rfl
theorem sn{p:Nat->Bool}{x:Box}{cs:List AV}(h:atB p x=true)(a:x.cs? =some cs):∀c∈cs,c.atp p=true:=by
 cases x with
 |cells ds=>cases a;simpa[atB] using h
 |row ds=>
  rw[dT] at a;split at a
  .cases a
  .cases a;simp only[atB,zS] at h;intro c b;have:=h c b
   cases c<;>first|rfl|(simp[AV.aZ] at this)
 |dead=>cases a
 |loop y=>cases a
 |mp l=>cases a
 |mq l c=>cases a
 |tab x=>cases a
theorem FW{p:Nat->Bool}{x:Box}{y:LB}(h:atB p x=true)(a:x.lb? =some y):y.n=0/\∀M:Hp,y.M.le M:=by
 cases x<;>simp only[Box.lb?,zN,atB] at a h<;>first|(cases a;done)|(cases h;done)|skip
 all_goals
  subst a;exact⟨rfl,λM _ _ _ e=>by cases e⟩
theorem Sem.ren{P:Program}{f:FuncId}{ab:List AV}{cur:List Box}{Q:AV->List Box->Prop}(is:List Nat)(hnd:is.Nodup)(hin:∀i∈is,i<cur.length)
  (hv:∀x∈ab,x.atp (tB is)=true) (hb:∀i∈is,atB (tB is) (jG cur i)=true)
  (h:Sem P f (ab.map (AV.rn (rho is))) (cut is cur is) λr bs'=>(is.length<=bs'.length/\r.atp (λb=>decide (b<bs'.length))=true/\xn (λb=>decide (b<bs'.length)) bs'=true)/\Q r bs'):
  Sem P f ab cur λr cur'=>∃r0 bs',Q r0 bs'/\r=r0.rn (pie is cur.length)/\cur'=back is cur bs':=by
 intro E G a0 w args lo a hl hvals
 have hcb:∀k,k<is.length->∃i x,is[k]? =some i/\cur[i]? =some x/\(cut is cur is)[k]? =some (rnB (rho is) x)/\atB (tB is) x=true:=λk hk=>by
  have hi:is[k]? =some is[k]:=zA hk;have O:=hin _ (zc hk);have W:cur[is[k]]? =some cur[is[k]]:=zA O;refine⟨_,_,hi,W,?_,?_⟩
  .rw [G4,hi];simp only[zM];rw[lH W]
  .have:=hb _ (zc hk)
   rwa [lH W] at this
 have hcl:(cut is cur is).length=is.length:=vV _ _ _
 have hk_lt:∀{k:Nat} {y:Box},(cut is cur is)[k]? =some y->k<is.length:=λ{k y} H=>by
  have:=(zB.1 H).1;omega
 obtain⟨Gc,hGc⟩:∃Gc:Gh,Gc=⟨G.M,λk=>G.σ ((ve is k).getD 0),λp=>match p with|.sl _=>none|.bx k j=>match ve is k with|some i=>G.cl (.bx i j)|none=>none⟩:=⟨_,rfl⟩;have F:∀{k i:Nat},is[k]? =some i->Gc.σ k=G.σ i:=λ{k i} hk=>by rw[hGc];simp only[iT,hk,ZS]
 have hclc:∀{k i:Nat} (j:Nat),is[k]? =some i->Gc.cl (.bx k j)=G.cl (.bx i j):=λ{k i} j hk=>by rw[hGc];simp only[iT,hk]
 have I:∀{p:Pl} {B:Nat},Gc.cl p=some B->∃k i j,p=.bx k j/\is[k]? =some i/\G.cl (.bx i j)=some B:=λ{p B} hp=>by
  rw[hGc] at hp
  cases p with
  |sl t=>cases hp
  |bx k j=>
   simp only[iT] at hp
   cases hk:is[k]? with
   |none=>rw[hk] at hp;cases hp
   |some i=>rw[hk] at hp;exact⟨k,i,j,rfl,hk,hp⟩
 have hMc:Gc.M=G.M:=by rw[hGc]
 have m:∀{k:Nat} {cs:List AV},aa (cut is cur is) k=some cs->∃i ds,is[k]? =some i/\aa cur i=some ds/\cs=ds.map (AV.rn (rho is))/\∀c∈ds,c.atp (tB is)=true:=λ{k cs} J=>by
  unfold aa at J;split at J
  .rename_i y H;obtain⟨i,x,d,g,h3,h4⟩:=hcb k (hk_lt H);rw[h3] at H;cases H;rw[EB _ h4] at J
   cases W:x.cs? with
   |none=>rw[W] at J;cases J
   |some ds=>
    rw[W] at J;simp only[zM,zN] at J;exact⟨i,ds,d,by simp only[aa,g,W],J.symm,sn h4 W⟩
  .cases J
 have s:∀{k:Nat} {x:LB},ah (cut is cur is) k=some x->∃i,is[k]? =some i/\ah cur i=some x/\x.n=0/\∀M:Hp,x.M.le M:=λ{k x} J=>by
  unfold ah at J;split at J
  .rename_i y H;obtain⟨i,z,d,g,h3,h4⟩:=hcb k (hk_lt H);rw[h3] at H;cases H;rw[EA] at J;exact⟨i,d,by simp only[ah,g,J],FW h4 J⟩
  .cases J
 have ixk:∀{k k' i:Nat},is[k]? =some i->is[k']? =some i->k=k':=λ{k k' i} d g=>by
  have L:=vq hnd d;have e2:=vq hnd g;rw[L] at e2;exact yJ e2
 have hrho:∀b,tB is b=true->∃k,is[k]? =some b/\rho is b=k:=λb hb=>by
  unfold tB at hb;unfold rho
  cases hq:rX is b 0 with
  |none=>rw[hq] at hb;cases hb
  |some k=>
   obtain⟨_,d⟩:=il hq;exact⟨k,by simpa using d,rfl⟩
 have toC:∀{x:AV} {v:Value},RV G.M G.σ cur.length x v->x.atp (tB is)=true->RV Gc.M Gc.σ (cut is cur is).length (x.rn (rho is)) v:=λ{x v} W hp=>by
  rw[hMc];refine W.rn (λb hb _=>?_) hp;obtain⟨k,d,g⟩:=hrho b hb;rw[g,F d,hcl];exact⟨rfl,(zB.1 d).1⟩
 have Z:∀{p:Pl} {x:AV},(⟨[],cut is cur is,0⟩:St).at p=some x->∃k i j y,p=.bx k j/\is[k]? =some i/\(⟨[],cur,lo⟩:St).at (.bx i j)=some y/\x=y.rn (rho is)/\y.atp (tB is)=true:=λ{p x} hp=>by
  cases p with
  |sl t=>simp[St.at,au] at hp
  |bx k j=>
   simp only[St.at] at hp
   cases hb:aa (cut is cur is) k with
   |none=>rw[hb] at hp;cases hp
   |some cs=>
    obtain⟨i,ds,d,g,h3,h4⟩:=m hb;rw[hb,h3] at hp;simp only[ZG,ZF] at hp
    cases hj:ds[j]? with
    |none=>rw[hj] at hp;cases hp
    |some y=>
     rw[hj] at hp;simp only[zM,zN] at hp;exact⟨k,i,j,y,rfl,d,by simp only[St.at,g,ZG,hj],hp.symm,h4 y (zE hj)⟩
 have hval:∀{k i:Nat} (j:Nat),is[k]? =some i->aw Gc.σ ⟨#[],[]⟩ w (.bx k j)=aw G.σ a0 w (.bx i j):=λ{k i} j hk=>by simp only[aw,F hk]
 have hpreC:RS ⟨λ_=>True,G.M,w,0,0,Gc.σ,[]⟩ Gc ⟨[],cut is cur is,0⟩ ⟨#[],[]⟩ w:=by
  refine⟨by rw[hMc];exact Fr.refl _ _ _ a.fr.kn,by rw[hMc];exact a.ok,rfl,λp x hp=>?_,λk j x hp=>?_,λk cs hk=>?_,λk cs hk=>?_,λk k' cs cs' hk u e=>?_,λp z l hp=>?_,λp q B hp hq=>?_,λp B hp k cs hk=>?_,λp B hp=>?_,rfl,zJ _,λ_ _=>rfl,?_⟩
  .obtain ⟨k,i,j,y,rfl,d,g,rfl,h4⟩:=Z hp;show RV Gc.M Gc.σ (cut is cur is).length _ (aw Gc.σ ⟨#[],[]⟩ w (.bx k j));rw[nh,hval j d];exact toC (a.val _ _ g) (by rw[lJ];exact h4)
  .obtain ⟨k',i,j',y,e,d,g,_,_⟩:=Z hp;cases e;rw[hval _ d];exact a.one _ _ _ g
  .obtain ⟨i,ds,d,g,rfl,_⟩:=m hk;rw[F d,zF];exact a.box i ds g
  .obtain ⟨i,ds,d,g,rfl,_⟩:=m hk;rw[F d,hMc];exact⟨(a.bmem i ds g).1,.inl trivial⟩
  .obtain ⟨i,ds,d,g,_,_⟩:=m hk;obtain⟨i',ds',h1',h2',_,_⟩:=m u;rw[F d,F h1'] at e;have:=a.inj i i' ds ds' g h2' e;subst this;exact ixk d h1'
  .obtain ⟨k,i,j,y,rfl,d,g,h3,_⟩:=Z hp;have H:=uo h3.symm;subst H;obtain⟨ad,kk,D,C,S⟩:=a.own _ _ _ g;refine⟨ad,kk,by rw[hval j d];exact D,C,?_⟩
   rcases S with S|⟨B,hB,q4,q5⟩
   .exact .inl S
   .refine .inr ⟨B,by rw[hclc j d];exact hB,q4,q5.lt,q5.cells,by rw[hMc];exact q5.free,.inl trivial⟩
  .obtain ⟨k,i,j,rfl,d,g⟩:=I hp;obtain⟨k',i',j',rfl,h1',h2'⟩:=I hq;have:=a.clinj _ _ B g h2';cases this;have:=ixk d h1';subst this;rfl
  .obtain ⟨k',i',j',rfl,h1',h2'⟩:=I hp;obtain⟨i,ds,d,g,_,_⟩:=m hk;rw[F d];exact a.clbox _ B h2' i ds g
  .obtain ⟨k,i,j,rfl,d,g⟩:=I hp;exact⟨(a.cllt _ B g).1,.inl trivial⟩
  .refine ⟨λB o hs=>?_,λk x hk=>?_,λk k' x x' hk u e=>?_,⟨[],rfl,.nil⟩,λk x hk j B o hj=>by
    obtain⟨i,d,g,_,_⟩:=s hk;obtain⟨D,C,S⟩:=a.sp.rows i x g j B o hj;exact⟨D,by rw[hclc j d];exact C,by rw[hMc];exact S⟩⟩
   .rcases hs with ⟨k,x,hk,e,ho⟩|⟨hmem,_⟩
    .obtain ⟨i,d,g,_,_⟩:=s hk;rw[F d] at e;obtain⟨D,C,_⟩:=a.sp.ob B o (.inl ⟨i,x,g,e,ho⟩);refine⟨D,λp hp=>?_,.inl trivial⟩;obtain⟨k',i',j',rfl,h1',h2'⟩:=I hp;exact C _ h2'
    .cases hmem
   .obtain ⟨i,d,g,h3,h4⟩:=s hk;exact⟨h4 _,by omega,λc J=>by omega⟩
   .obtain ⟨i,d,g,_,_⟩:=s hk;obtain⟨i',h1',h2',_,_⟩:=s u;rw[F d,F h1'] at e;have:=a.sp.inj i i' x x' g h2' e;subst this;exact ixk d h1'
 refine(h _ Gc _ w args 0 hpreC (by simpa using hl) (λj hj v hjv=>?_)).mono ?_
 .simp only[zF] at hj;rw[ZD];exact toC (hvals j hj v hjv) (hv _ (zc hj))
 rintro e w' ⟨v,r,bs',G',rfl,⟨⟨hlen,hrat,hball⟩,hq⟩,Y⟩;have hwsz:w.heap.size<=w'.heap.size:=Y.fr.size;have K:Fr (eo Gc (cut is cur is)) G.M w G'.M w':=by have:=Y.fr;rw[<-hMc];exact this
 have toG:∀B,eo Gc (cut is cur is) B->eo G cur B:=λB hB=>by
  rcases hB with ⟨k,cs,hk,e⟩|⟨k,j,hk⟩|⟨k,x,hk,e⟩
  .obtain ⟨i,ds,d,g,_,_⟩:=m hk;exact .inl ⟨i,ds,g,by rw[<-F d];exact e⟩
  .obtain ⟨k',i,j',e,d,g⟩:=I hk;exact .inr (.inl ⟨i,j',g⟩)
  .obtain ⟨i,d,g,_,_⟩:=s hk;exact .inr (.inr ⟨i,x,g,by rw[<-F d];exact e⟩)
 have no1:∀{b:Nat} {cs:List AV},b∉is->aa cur b=some cs->¬eo Gc (cut is cur is) (G.σ b):=λ{b cs} hbi hb hB=>by
  rcases hB with ⟨k,cs',hk,e⟩|⟨k,j,hk⟩|⟨k,x,hk,e⟩
  .obtain ⟨i,ds,d,g,_,_⟩:=m hk;rw[F d] at e;have:=a.inj i b ds cs g hb e;subst this;exact hbi (zE d)
  .obtain ⟨k',i,j',e,d,g⟩:=I hk;exact a.clbox _ _ g b cs hb rfl
  .obtain ⟨i,d,g,_,_⟩:=s hk;rw[F d] at e;obtain⟨vs,T,D,_⟩:=a.box b cs hb;have C:=(a.sp.ob _ _ (.inl ⟨i,x,g,e,rfl⟩)).1;exact x.A4 (D.symm.trans C)
 have no2:∀{b:Nat} {x:LB},b∉is->ah cur b=some x->¬eo Gc (cut is cur is) (G.σ b):=λ{b x} hbi hb hB=>by
  have q0:=a.sp.ob _ _ (.inl ⟨b,x,hb,rfl,rfl⟩);rcases hB with ⟨k,cs',hk,e⟩|⟨k,j,hk⟩|⟨k,y,hk,e⟩
  .obtain ⟨i,ds,d,g,_,_⟩:=m hk;rw[F d] at e;obtain⟨vs,T,D,_⟩:=a.box i ds g;rw[e] at D;exact x.A4 (D.symm.trans q0.1)
  .obtain ⟨k',i,j',e,d,g⟩:=I hk;exact q0.2.1 _ g
  .obtain ⟨i,d,g,_,_⟩:=s hk;rw[F d] at e;have:=a.sp.inj i b y x g hb e;subst this;exact hbi (zE d)
 have no3:∀{b j B:Nat},b∉is->G.cl (.bx b j)=some B->¬eo Gc (cut is cur is) B:=λ{b j B} hbi hb hB=>by
  rcases hB with ⟨k,cs',hk,e⟩|⟨k,j',hk⟩|⟨k,y,hk,e⟩
  .obtain ⟨i,ds,d,g,_,_⟩:=m hk;rw[F d] at e;exact a.clbox _ B hb i ds g e
  .obtain ⟨k',i,j'',e,d,g⟩:=I hk;have:=a.clinj _ _ B g hb;cases this;exact hbi (zE d)
  .obtain ⟨i,d,g,_,_⟩:=s hk;rw[F d] at e
   exact(a.sp.ob _ _ (.inl ⟨i,y,g,e,rfl⟩)).2.1 _ hb
 --the new state of knowledge
 obtain⟨N,hN⟩:∃N,N=cur.length:=⟨_,rfl⟩;obtain⟨G2,hG2⟩:∃G2:Gh,G2=⟨G'.M,λb=>match bq is N b with|some k=>G'.σ k|none=>G.σ b,λp=>match p with|.sl 0=>G'.cl (.sl 0)|.sl _=>none|.bx b j=>match bq is N b with|some k=>G'.cl (.bx k j)|none=>G.cl (.bx b j)⟩:=⟨_,rfl⟩;have X:G2.M=G'.M:=by rw[hG2]
 have σ1:∀{b k:Nat},bq is N b=some k->G2.σ b=G'.σ k:=λ{b k} e=>by rw[hG2];simp only[e]
 have σ2:∀{b:Nat},bq is N b=none->G2.σ b=G.σ b:=λ{b} e=>by rw[hG2];simp only[e]
 have cl1:∀{b k:Nat} (j:Nat),bq is N b=some k->G2.cl (.bx b j)=G'.cl (.bx k j):=λ{b k} j e=>by rw[hG2];simp only[e]
 have cl2:∀{b:Nat} (j:Nat),bq is N b=none->G2.cl (.bx b j)=G.cl (.bx b j):=λ{b} j e=>by rw[hG2];simp only[e]
 have cl0:G2.cl (.sl 0)=G'.cl (.sl 0):=by rw[hG2];rfl
 have clS:∀{t B:Nat},G2.cl (.sl t)=some B->t=0:=λ{t B} e=>by
  rw[hG2] at e
  cases t with
  |zero=>rfl
  |succ t=>cases e
 have hinN:∀i∈is,i<N:=by rw[hN];exact hin
 have A:∀{b:Nat},bq is N b=none->b∉is/\b<N:=λ{b} e=>by
  unfold bq at e;split at e
  .rename_i hb;exact⟨rW e,hb⟩
  .cases e
 have srcI:∀{b V k:Nat},bq is N b=some k->bq is N V=some k->b=V:=λ{b V k} e e'=>(GC e hinN).symm.trans (GC e' hinN)
 have hsigC:∀{k i:Nat},is[k]? =some i->G'.σ k=G.σ i:=λ{k i} hk=>by
  have:=Y.sig k (by show k<(cut is cur is).length;rw[hcl];exact(zB.1 hk).1)
  exact this.trans (F hk)
 have hσN:∀b,b<N->G2.σ b=G.σ b:=λb hb=>by
  cases e:bq is N b with
  |none=>exact σ2 e
  |some k=>
   rw[σ1 e];refine hsigC ?_;unfold bq at e;rw[if_pos hb] at e;simpa using(il e).2
 have hblen:(back is cur bs').length=N+(bs'.length-is.length):=by rw[DR,hN]
 have hpie:∀k,k<bs'.length->G2.σ (pie is N k)=G'.σ k/\pie is N k<(back is cur bs').length:=λk hk=>by
  refine⟨σ1 (LL hnd hinN k),?_⟩;rw[hblen];unfold pie;rw[iT]
  cases e:is[k]? with
  |some b=>have:=hinN b (zE e);simp only;omega
  |none=>
   simp only
   have:is.length<=k:=by
    rcases zt k is.length with h|h
    .rw [zA h] at e;cases e
    .exact h
   omega
 have srcLt:∀{b k:Nat} {y:Box},bq is N b=some k->(back is cur bs')[b]? =some y->k<bs'.length:=λ{b k y} e H=>by
  have hb:=(zB.1 H).1;rw[hblen] at hb;unfold bq at e;split at e
  .have:=(zB.1 (il e).2).1;omega
  .cases e;omega
 have bget:∀{b:Nat} {y:Box},(back is cur bs')[b]? =some y->(∃k x,bq is N b=some k/\bs'[k]? =some x/\y=rnB (pie is N) x/\atB (λb=>decide (b<bs'.length)) x=true)\/(bq is N b=none/\cur[b]? =some y):=λ{b y} H=>by
  obtain⟨D,C⟩:=Ld is cur bs' b;rw[<-hN] at D C
  cases e:bq is N b with
  |some k=>
   have O:=srcLt e H;have W:bs'[k]? =some bs'[k]:=zA O;rw[D k e O,W] at H;simp only[zM,zN] at H
   exact .inl ⟨k,_,rfl,W,H.symm,Ea hball W⟩
  |none=>rw[C e] at H;exact .inr ⟨rfl,H⟩
 have eM:∀{b:Nat} {cs:List AV},aa (back is cur bs') b=some cs->(∃k ds,bq is N b=some k/\aa bs' k=some ds/\cs=ds.map (AV.rn (pie is N))/\∀c∈ds,c.atp (λb=>decide (b<bs'.length))=true)\/(bq is N b=none/\aa cur b=some cs):=λ{b cs} J=>by
  unfold aa at J;split at J
  .rename_i y H;rcases bget H with ⟨k,x,e,W,rfl,Z⟩|⟨e,W⟩
   .rw [EB _ Z] at J
    cases hxc:x.cs? with
    |none=>rw[hxc] at J;cases J
    |some ds=>
     rw[hxc] at J;simp only[zM,zN] at J;exact .inl ⟨k,ds,e,by simp only[aa,W,hxc],J.symm,sn Z hxc⟩
   .exact .inr ⟨e,by simp only[aa,W,J]⟩
  .cases J
 have R:∀{b:Nat} {x:LB},ah (back is cur bs') b=some x->(∃k,bq is N b=some k/\ah bs' k=some x/\x.n=0/\∀M:Hp,x.M.le M)\/(bq is N b=none/\ah cur b=some x):=λ{b x} J=>by
  unfold ah at J;split at J
  .rename_i y H;rcases bget H with ⟨k,z,e,hz,rfl,Z⟩|⟨e,hz⟩
   .rw [EA] at J;exact .inl ⟨k,e,by simp only[ah,hz,J],FW Z J⟩
   .exact .inr ⟨e,by simp only[ah,hz,J]⟩
  .cases J
 have toN:∀{x:AV} {v:Value},RV G'.M G'.σ bs'.length x v->x.atp (λb=>decide (b<bs'.length))=true->RV G2.M G2.σ (back is cur bs').length (x.rn (pie is N)) v:=λ{x v} W hp=>by
  rw[X];exact W.rn (λb hb O=>hpie b O) hp
 have keep:∀{x:AV} {v:Value},RV G.M G.σ cur.length x v->RV G2.M G2.σ (back is cur bs').length x v:=λ{x v} W=>by
  rw[X];exact W.mono K.le (by rw[hblen,hN];omega) (λb hb=>hσN b (by rw[hN];exact hb))
 have hat2:∀{p:Pl} {x:AV},(⟨[(0,r.rn (pie is N))],back is cur bs',N⟩:St).at p=some x->(p=.sl 0/\x=r.rn (pie is N))\/(∃b j k y,p=.bx b j/\bq is N b=some k/\(⟨[(0,r)],bs',(cut is cur is).length⟩:St).at (.bx k j)=some y/\x=y.rn (pie is N)/\y.atp (λb=>decide (b<bs'.length))=true)\/(∃b j,p=.bx b j/\bq is N b=none/\(⟨[],cur,lo⟩:St).at (.bx b j)=some x):=λ{p x} hp=>by
  cases p with
  |sl t=>
   simp only[St.at,au] at hp;split at hp
   .rename_i hb;have:=zO hb;subst this;cases hp;exact .inl ⟨rfl,rfl⟩
   .cases hp
  |bx b j=>
   simp only[St.at] at hp
   cases hb:aa (back is cur bs') b with
   |none=>rw[hb] at hp;cases hp
   |some cs=>
    rw[hb] at hp;simp only[ZG] at hp;rcases eM hb with ⟨k,ds,e,hk,rfl,Z⟩|⟨e,hk⟩
    .rw [ZF] at hp
     cases hj:ds[j]? with
     |none=>rw[hj] at hp;cases hp
     |some y=>
      rw[hj] at hp;simp only[zM,zN] at hp;exact .inr (.inl ⟨b,j,k,y,rfl,e,by simp only[St.at,hk,ZG,hj],hp.symm,Z y (zE hj)⟩)
    .exact .inr (.inr ⟨b,j,rfl,e,by simp only[St.at,hk,ZG,hp]⟩)
 have va1:∀{b k:Nat} (j:Nat),bq is N b=some k->aw G2.σ ⟨#[v],[]⟩ w' (.bx b j)=aw G'.σ ⟨#[v],[]⟩ w' (.bx k j):=λ{b k} j e=>by simp only[aw,σ1 e]
 have va2:∀{b:Nat} (j:Nat) {x:AV},bq is N b=none->(⟨[],cur,lo⟩:St).at (.bx b j)=some x->aw G2.σ ⟨#[v],[]⟩ w' (.bx b j)=aw G.σ a0 w (.bx b j):=λ{b} j {x} e W=>by
  simp only[St.at] at W
  cases hb:aa cur b with
  |none=>rw[hb] at W;cases W
  |some cs=>
   simp only[aw,σ2 e];rw[bN (K.heap _ (a.blt hb) (no1 (A e).1 hb))]
 have newB:∀{q:Pl} {B:Nat},G'.cl q=some B->eo Gc (cut is cur is) B\/w.heap.size<=B:=λ{q B} hq=>(Y.cllt q B hq).2
 have far3:∀{b j B:Nat} {q:Pl},bq is N b=none->G.cl (.bx b j)=some B->G'.cl q=some B->False:=λ{b j B q} e d g=>by
  rcases newB g with h3|h3
  .exact no3 (A e).1 d h3
  .have:=(a.cllt _ B d).1;omega
 have hat0:(⟨[(0,r)],bs',(cut is cur is).length⟩:St).at (.sl 0)=some r:=rfl
 have clOf:∀{p:Pl} {B:Nat},G2.cl p=some B->(∃q,G'.cl q=some B/\((p=.sl 0/\q=.sl 0)\/∃b j k,p=.bx b j/\bq is N b=some k/\q=.bx k j))\/∃b j,p=.bx b j/\bq is N b=none/\G.cl (.bx b j)=some B:=λ{p B} hp=>by
  cases p with
  |sl t=>
   have:=clS hp;subst this;rw[cl0] at hp
   exact .inl ⟨.sl 0,hp,.inl ⟨rfl,rfl⟩⟩
  |bx b j=>
   cases e:bq is N b with
   |some k=>rw[cl1 j e] at hp;exact .inl ⟨_,hp,.inr ⟨b,j,k,rfl,e,rfl⟩⟩
   |none=>rw[cl2 j e] at hp;exact .inr ⟨b,j,rfl,e,hp⟩
 refine⟨v,r.rn (pie is N),back is cur bs',G2,rfl,⟨r,bs',hq,by rw[hN],rfl⟩,?_⟩
 refine⟨?_,by rw[X];exact Y.ok,rfl,λp x hp=>?_,λb j x hp=>?_,λb cs hb=>?_,λb cs hb=>?_,λb V cs cs' hb hb' e=>?_,λp z l hp=>?_,λp q B hp hq=>?_,λp B hB b cs hb=>?_,λp B hB=>?_,hN.symm▸rfl,by show cur.length<=_;rw[hblen,hN];omega,λb hb=>hσN b (by rw[hN];exact hb),?_⟩
 .rw [X];exact⟨K.os,K.tape,K.output,K.size,K.le,λB hB hn=>K.heap B hB (λe=>hn (toG B e)),λB hB hn=>K.mem B hB (λe=>hn (toG B e)),K.kn⟩
 .rw [<-hN] at hp;rcases hat2 hp with ⟨rfl,rfl⟩|⟨b,j,k,y,rfl,e,H,rfl,ha⟩|⟨b,j,rfl,e,H⟩
  .show RV G2.M G2.σ _ _ v;rw[nh];exact toN (Y.val _ _ hat0) (by rw[lJ];exact hrat)
  .show RV G2.M G2.σ _ _ (aw G2.σ ⟨#[v],[]⟩ w' (.bx b j));rw[nh,va1 j e];exact toN (Y.val _ _ H) (by rw[lJ];exact ha)
  .show RV G2.M G2.σ _ _ (aw G2.σ ⟨#[v],[]⟩ w' (.bx b j));rw[va2 j e H];exact keep (a.val _ _ H)
 .rw [<-hN] at hp;rcases hat2 hp with ⟨e,_⟩|⟨V,j',k,y,e0,e,H,rfl,ha⟩|⟨V,j',e0,e,H⟩
  .cases e
  .cases e0;rw[va1 j e];exact Y.one _ _ _ H
  .cases e0;rw[va2 j e H];exact a.one _ _ _ H
 .rcases eM hb with ⟨k,ds,e,hk,rfl,_⟩|⟨e,hk⟩
  .rw [σ1 e,zF];exact Y.box k ds hk
  .rw [σ2 e];obtain⟨vs,T,D,C⟩:=a.box b cs hk;exact⟨vs,T,(K.heap _ (a.blt hk) (no1 (A e).1 hk)).trans D,C⟩
 .rcases eM hb with ⟨k,ds,e,hk,rfl,_⟩|⟨e,hk⟩
  .rw [σ1 e,X];obtain⟨D,C⟩:=Y.bmem k ds hk;refine⟨D,?_⟩;rcases C with C|C
   .exact .inl (toG _ C)
   .exact .inr C
  .rw [σ2 e,X];exact⟨λo=>(K.mem _ (a.blt hk) (no1 (A e).1 hk) o).trans ((a.bmem b cs hk).1 o),.inl (.inl ⟨b,cs,hk,rfl⟩)⟩
 .have mixed:∀{b V:Nat} {k:Nat} {ds cs':List AV},bq is N b=some k->aa bs' k=some ds->bq is N V=none->aa cur V=some cs'->G2.σ b=G2.σ V->False:=λ{b V k ds cs'} e hk e' u he=>by
   rw[σ1 e,σ2 e'] at he;rcases(Y.bmem k ds hk).2 with q|q
   .rw [he] at q;exact no1 (A e').1 u q
   .have q:w.heap.size<=G'.σ k:=q;have:=a.blt u;omega
  rcases eM hb with ⟨k,ds,L,hk,_,_⟩|⟨L,hk⟩<;>rcases eM hb' with ⟨k',ds',U,u,_,_⟩|⟨U,u⟩
  .rw [σ1 L,σ1 U] at e;have:=Y.inj k k' ds ds' hk u e;subst this;exact srcI L U
  .exact (mixed L hk U u e).elim
  .exact (mixed U u L hk e.symm).elim
  .rw [σ2 L,σ2 U] at e;exact a.inj b V cs cs' hk u e
 .rw [<-hN] at hp;rcases hat2 hp with ⟨rfl,hr⟩|⟨b,j,k,y,rfl,e,H,hyr,ha⟩|⟨b,j,rfl,e,H⟩
  .have hr':=uo hr.symm;obtain⟨ad,kk,D,C,S⟩:=Y.own _ _ _ (hat0.trans (by rw[hr']))
   refine⟨ad,kk,D,C,?_⟩;rcases S with S|⟨B,hB,q4,q5⟩
   .exact .inl S
   .refine .inr ⟨B,by rw[cl0];exact hB,q4,q5.lt,q5.cells,by rw[X];exact q5.free,?_⟩
    rcases q5.mine with q|q
    .exact .inl (toG _ q)
    .exact .inr q
  .have hy':=uo hyr.symm;subst hy';obtain⟨ad,kk,D,C,S⟩:=Y.own _ _ _ H;refine⟨ad,kk,by rw[va1 j e];exact D,C,?_⟩
   rcases S with S|⟨B,hB,q4,q5⟩
   .exact .inl S
   .refine .inr ⟨B,by rw[cl1 j e];exact hB,q4,q5.lt,q5.cells,by rw[X];exact q5.free,?_⟩
    rcases q5.mine with q|q
    .exact .inl (toG _ q)
    .exact .inr q
  .obtain ⟨ad,kk,D,C,S⟩:=a.own _ _ _ H;refine⟨ad,kk,by rw[va2 j e H];exact D,C,?_⟩
   rcases S with S|⟨B,hB,q4,q5⟩
   .exact .inl S
   .have O:=(a.cllt _ B hB).1;have hn:=no3 (A e).1 hB;obtain⟨vs,T,q6,q7⟩:=q5.cells;exact .inr ⟨B,by rw[cl2 j e];exact hB,q4,q5.lt,⟨vs,T,(K.heap B O hn).trans q6,q7⟩,λo ho=>by rw[X];exact(K.mem B O hn o).trans (q5.free o ho),.inl (.inr (.inl ⟨b,j,hB⟩))⟩
 .rcases clOf hp with ⟨D,hq1,d⟩|⟨b,j,rfl,e,d⟩<;>rcases clOf hq with ⟨C,hq2,g⟩|⟨V,j',rfl,e',g⟩
  .have:=Y.clinj D C B hq1 hq2;subst this;rcases d with ⟨rfl,rfl⟩|⟨b,j,k,rfl,e,rfl⟩<;>rcases g with ⟨rfl,e2⟩|⟨V,j',k',rfl,e',e2⟩
   .rfl
   .cases e2
   .cases e2
   .cases e2;have:=srcI e e';subst this;rfl
  .exact (far3 e' g hq1).elim
  .exact (far3 e d hq2).elim
  .exact a.clinj _ _ B d g
 .intro he;rcases clOf hB with ⟨D,hq1,_⟩|⟨V,j',rfl,e',d⟩<;>rcases eM hb with ⟨k,ds,L,hk,_,_⟩|⟨L,hk⟩
  .rw [σ1 L] at he;exact Y.clbox D B hq1 k ds hk he
  .rw [σ2 L] at he;rcases newB hq1 with q|q
   .rw [<-he] at q;exact no1 (A L).1 hk q
   .have:=a.blt hk;have he':G.σ b=B:=he;have this':G.σ b<w.heap.size:=this;omega
  .rw [σ1 L] at he;rcases(Y.bmem k ds hk).2 with q|q
   .rw [he] at q;exact no3 (A e').1 d q
   .have q:w.heap.size<=G'.σ k:=q;have:=(a.cllt _ B d).1;have he':G'.σ k=B:=he;omega
  .rw [σ2 L] at he;exact a.clbox _ B d b cs hk he
 .rcases clOf hB with ⟨D,hq1,_⟩|⟨V,j',rfl,e',d⟩
  .obtain ⟨C,S⟩:=Y.cllt D B hq1;refine⟨C,?_⟩;rcases S with q|q
   .exact .inl (toG _ q)
   .exact .inr q
  .exact ⟨ZT (a.cllt _ B d).1 hwsz,.inl (.inr (.inl ⟨V,j',d⟩))⟩
 .refine ⟨λB o hs=>?_,λb x hb=>?_,λb V x x' hb hb' e=>?_,⟨[],rfl,.nil⟩,λb x hb j B o hj=>by
   rcases R hb with ⟨k,L,hk,_,_⟩|⟨L,hk⟩
   .obtain ⟨D,C,S⟩:=Y.sp.rows k x hk j B o hj;exact⟨D,by rw[cl1 j L];exact C,by rw[X];exact S⟩
   .obtain ⟨D,C,S⟩:=a.sp.rows b x hk j B o hj;have hn:=no3 (A L).1 C;have O:=(a.cllt _ B C).1;exact⟨(K.heap B O hn).trans D,by rw[cl2 j L];exact C,by rw[X];exact λk=>(K.mem B O hn k).trans (S k)⟩⟩
  .rcases hs with ⟨b,x,hb,e,ho⟩|⟨hmem,_⟩
   .rcases R hb with ⟨k,L,hk,_,_⟩|⟨L,hk⟩
    .rw [σ1 L] at e;obtain⟨D,C,S⟩:=Y.sp.ob B o (.inl ⟨k,x,hk,e,ho⟩);refine⟨D,λp hp=>?_,?_⟩
     .rcases clOf hp with ⟨q,hq,_⟩|⟨V,j',_,e',d⟩
      .exact C q hq
      .rcases S with q|q
       .exact no3 (A e').1 d q
       .have q:w.heap.size<=B:=q;have:=(a.cllt _ B d).1;omega
     .rcases S with q|q
      .exact .inl (toG _ q)
      .exact .inr q
    .rw [σ2 L] at e;obtain⟨D,C,_⟩:=a.sp.ob B o (.inl ⟨b,x,hk,e,ho⟩);have O:=(zh.1 D).1;have hn:=no2 (A L).1 hk;rw[e] at hn;refine⟨(K.heap B O hn).trans D,λp hp=>?_,.inl (.inr (.inr ⟨b,x,hk,e⟩))⟩;rcases clOf hp with ⟨q,hq,_⟩|⟨V,j',_,e',d⟩
     .rcases newB hq with q|q
      .exact hn q
      .omega
     .exact C _ d
   .cases hmem
  .rcases R hb with ⟨k,L,hk,h0,hM⟩|⟨L,hk⟩
   .exact ⟨hM _,by omega,λc J=>by omega⟩
   .obtain ⟨D,C,S⟩:=a.sp.base b x hk;refine⟨by rw[X];exact Hp.le_trans D K.le,C,λc J=>?_⟩
    have:=(A L).2;rw[hσN c (by omega)]
    exact S c J
  .have mixed:∀{b V:Nat} {k:Nat} {x x':LB},bq is N b=some k->ah bs' k=some x->bq is N V=none->ah cur V=some x'->G2.σ b=G2.σ V->False:=λ{b V k x x'} e hk e' u he=>by
    rw[σ1 e,σ2 e'] at he;have q0:=(zh.1 (a.sp.ob _ _ (.inl ⟨V,x',u,rfl,rfl⟩)).1).1;rcases(Y.sp.ob _ _ (.inl ⟨k,x,hk,rfl,rfl⟩)).2.2 with q|q
    .rw [he] at q;exact no2 (A e').1 u q
    .have q:w.heap.size<=G'.σ k:=q;omega
   rcases R hb with ⟨k,L,hk,_,_⟩|⟨L,hk⟩<;>rcases R hb' with ⟨k',U,u,_,_⟩|⟨U,u⟩
   .rw [σ1 L,σ1 U] at e;have:=Y.sp.inj k k' x x' hk u e;subst this;exact srcI L U
   .exact (mixed L hk U u e).elim
   .exact (mixed U u L hk e.symm).elim
   .rw [σ2 L,σ2 U] at e;exact a.sp.inj b V x x' hk u e
end Go.AM
namespace Go.AM
open Go.CK Go.RowKit
def wX(own:List Box)(b i:Nat)(a:List AV)(x:AV):List Box:=own.set b (.cells (a.set i x))
theorem aD.gcB{env:List (Nat×AV)}{own J:List Box}{cs n:List AV}{lo s i m k:Nat}(hc0:own[s]? =some (.cells n))(hi:i<n.length)(hlo:lo<=own.length)(he:∀u x,au env u=some x->x.lt own.length=true)(ho:aj own.length own=true)(hd:∀x∈cs,x.aI=x/\x.lt own.length=true):
  aD ⟨env,wX own s i n (.bsl (own.length+J.length) m k)++(J++[.row cs]),lo⟩ ⟨env,wX own s i n (.bsl own.length m k)++[.row cs],lo⟩:=λE G a w hs=>by
 have S:aa own s=some n:=by simp only[aa,hc0];rfl
 have hcl:s<own.length:=aC S;have Y:∀x,(wX own s i n x).length=own.length:=λx=>by simp[wX]
 have Z:∀x c,aa (wX own s i n x) c=if c=s then some (n.set i x) else aa own c:=λx c=>a7 S _ c;obtain⟨B1,O⟩:∃B1,B1=wX own s i n (.bsl (own.length+J.length) m k):=⟨_,rfl⟩;obtain⟨B2,N⟩:∃B2,B2=wX own s i n (.bsl own.length m k):=⟨_,rfl⟩;have R:B1.length=own.length:=by rw[O];exact Y _
 have K:B2.length=own.length:=by rw[N];exact Y _
 have hp1:∀c,aa B1 c=if c=s then some (n.set i (.bsl (own.length+J.length) m k)) else aa own c:=by rw[O];exact Z _
 have hp2:∀c,aa B2 c=if c=s then some (n.set i (.bsl own.length m k)) else aa own c:=by rw[N];exact Z _
 rw[<-O] at hs;rw[<-N]
 have U:∀c ds,aa (B2++[.row cs]) c=some ds->(c=own.length/\ds=cs/\cs≠[])\/(c<own.length/\aa B2 c=some ds):=λc ds h=>by
  rw[aq,K] at h;split at h
  .rename_i e;rw[dT] at h;split at h
   .cases h
   .rename_i r;cases h;exact .inl ⟨e,rfl,r⟩
  .exact .inr ⟨K▸aC h,h⟩
 have hb2:∀c,c<own.length->aa (B1++(J++[.row cs])) c=aa B1 c:=λc d=>by simp only[aa,zK (show c<B1.length by omega)]
 have hb3:cs≠[]->aa (B1++(J++[.row cs])) (own.length+J.length)=some cs:=λh=>by
  rw[<-R];simp[aa,dT,h]
 have hlb:∀c x,ah B2 c=some x->ah B1 c=some x:=λc x h=>by
  rw[N] at h;rw[O];simp only[ah,wX,zq] at h|-
  by_cases e:s=c
  .simp [e,Box.lb?] at h;split at h<;>first|(cases h;done)|(rename_i q;split at q<;>simp at q;subst q;cases h)
  .rw [if_neg e] at h|-;exact h
 have hlp1:∀c x,ah (B2++[.row cs]) c=some x->ah B1 c=some x:=λc x h=>hlb c x (cu rfl h)
 have hlp2:∀c x,ah B1 c=some x->ah (B1++(J++[.row cs])) c=some x:=λc x h=>by
  simp only[ah,zK (aO h)];exact h
 have hlen:(B1++(J++[Box.row cs])).length=own.length+J.length+1:=by simp[R];omega
 have H:(B2++[Box.row cs]).length=own.length+1:=by simp[K]
 obtain⟨f,hf⟩:∃f:Nat->Nat,f=λc=>if c=own.length then own.length+J.length else c:=⟨_,rfl⟩;obtain⟨σ',P⟩:∃σ':Nat->Nat,σ'=λc=>G.σ (f c):=⟨_,rfl⟩;have A:∀c,c<own.length->f c=c:=λc d=>by rw[hf];simp only;rw[if_neg (by omega)]
 have L:f own.length=own.length+J.length:=by rw[hf];simp
 have I:∀c,c<own.length->σ' c=G.σ c:=λc d=>by rw[P];simp only;rw[A c d]
 have t:∀c ds,aa (B2++[.row cs]) c=some ds->(∃g,aa (B1++(J++[.row cs])) (f c)=some g/\ds.length<=g.length/\∀(j:Nat) (x:AV),ds[j]? =some x->(c=s/\j=i/\x=.bsl own.length m k/\g[j]? =some (.bsl (own.length+J.length) m k))\/(g[j]? =some x/\¬(c=s/\j=i)/\x.aI.lt own.length=true/\((c=own.length/\x.aI=x)\/f c=c)))/\σ' c=G.σ (f c):=λc ds h=>by
  refine⟨?_,by rw[P]⟩
  rcases U c ds h with ⟨rfl,rfl,r⟩|⟨r,y⟩
  .refine ⟨ds,by rw[L];exact hb3 r,zG _,λj x b=>.inr ⟨b,λe=>by omega,?_,.inl ⟨rfl,(hd x (zE b)).1⟩⟩⟩
   obtain⟨q1,q2⟩:=hd x (zE b);rw[q1];exact q2
  .rw [A c r,hb2 c r,hp1];rw[hp2] at y
   by_cases e:c=s
   .rw [if_pos e] at y|-;cases y;refine⟨_,rfl,by simp,λj x b=>?_⟩
    rw[zq] at b
    by_cases W:i=j
    .subst W;rw[if_pos rfl,if_pos hi] at b;cases b;exact .inl ⟨e,rfl,rfl,by simp[hi]⟩
    .rw [if_neg W] at b;refine .inr ⟨by rw[zq,if_neg W];exact b,λq=>W q.2.symm,?_,.inr rfl⟩
     rw[lz];exact bK ho S b
   .rw [if_neg e] at y|-;refine⟨ds,y,zG _,λj x b=>.inr ⟨b,λq=>e q.1,?_,.inr rfl⟩⟩;rw[lz];exact bK ho y b
 have hinj:∀c D ds C,aa (B2++[.row cs]) c=some ds->aa (B2++[.row cs]) D=some C->f c=f D->c=D:=λc D ds C h h' e=>by
  rcases U c ds h with ⟨rfl,_,_⟩|⟨r,_⟩<;>rcases U D C h' with ⟨rfl,_,_⟩|⟨y,_⟩
  .rfl
  .rw [L,A D y] at e;omega
  .rw [A c r,L] at e;omega
  .rw [A c r,A D y] at e;exact e
 have F:∀x v,x.lt own.length=true->RV G.M G.σ (B1++(J++[Box.row cs])).length x v->RV G.M σ' (B2++[Box.row cs]).length x v:=λx v b h=>
  (h.lt b).mono (Hp.le_refl _) (by rw[H];omega) I
 have V:∀p x,(⟨env,B2++[.row cs],lo⟩:St).at p=some x->(p=.bx s i/\x=.bsl own.length m k/\(⟨env,B1++(J++[.row cs]),lo⟩:St).at (.bx s i)=some (.bsl (own.length+J.length) m k))\/(∃u,p=.sl u/\au env u=some x)\/∃c j,p=.bx c j/\(⟨env,B1++(J++[.row cs]),lo⟩:St).at (.bx (f c) j)=some x/\σ' c=G.σ (f c)/\x.aI.lt own.length=true/\((c=own.length/\x.aI=x)\/f c=c):=λp x hp=>by
  cases p with
  |sl u=>exact .inr (.inl ⟨u,rfl,hp⟩)
  |bx c j=>
   simp only[St.at] at hp
   cases d:aa (B2++[.row cs]) c with
   |none=>rw[d] at hp;cases hp
   |some ds=>
    rw[d] at hp;simp only[ZG] at hp;obtain⟨⟨g,r,_,h3⟩,y⟩:=t c ds d;rcases h3 j x hp with ⟨rfl,rfl,rfl,h4⟩|⟨h4,_,h5,h6⟩
    .refine .inl ⟨rfl,rfl,?_⟩;rw[A _ hcl] at r;simp only[St.at,r,ZG];exact h4
    .exact .inr (.inr ⟨c,j,rfl,by simp only[St.at,r,ZG];exact h4,y,h5,h6⟩)
 have Q:∀c j,σ' c=G.σ (f c)->aw σ' a w (.bx c j)=aw G.σ a w (.bx (f c) j):=λc j e=>by simp only[aw,e]
 have X:aw σ' a w (.bx s i)=aw G.σ a w (.bx s i):=by simp only[aw,I _ hcl]
 refine⟨{G with σ:=σ'},hs.fr,hs.ok,hs.nt,λp x hp=>?_,λc j x hp=>?_,λc ds d=>?_,λc ds d=>?_,λc D ds C d hc' e=>?_,λp z l hp=>?_,hs.clinj,λp B hB c ds d=>?_,hs.cllt,hs.lo,?_,λc d=>?_,?_⟩
 .rcases V p x hp with ⟨rfl,rfl,b⟩|⟨u,rfl,b⟩|⟨c,j,rfl,b,e,hlt,_⟩
  .have hv:=hs.val _ _ b;obtain⟨ad,r,_,h3,h4,h5⟩:=hv.cj;show RV G.M σ' _ _ (aw σ' a w (.bx s i));rw[X,r];refine .bsl _ _ _ _ (by simp[K]) h3 h4 λhk=>?_
   rw[h5 hk,P];simp only[L]
  .have hv:=hs.val (.sl u) x (show (⟨env,B1++(J++[.row cs]),lo⟩:St).at (.sl u)=some _ from b);exact F _ _ (by rw[lz];exact he u x b) hv
  .show RV G.M σ' _ _ (aw σ' a w (.bx c j));rw[Q c j e];exact F _ _ hlt (hs.val _ x b)
 .rcases V _ x hp with ⟨e,_,b⟩|⟨u,e,_⟩|⟨D,j',e,b,W,_,_⟩
  .cases e;show (aw σ' a w (.bx s i)).oneCell'=true;rw[X];exact hs.one _ _ _ b
  .cases e
  .cases e;show (aw σ' a w (.bx c j)).oneCell'=true;rw[Q c j W];exact hs.one _ _ _ b
 .obtain ⟨⟨g,r,h3,_⟩,y⟩:=t c ds d;show∃vs T,w.heap[σ' c]? =_/\_;rw[y];obtain⟨vs,T,q1,q2⟩:=hs.box _ g r;exact⟨vs,T,q1,ZN h3 q2⟩
 .obtain ⟨⟨g,r,_,_⟩,y⟩:=t c ds d;show (∀o,G.M (σ' c) o=none)/\(E.FP (σ' c)\/E.w.heap.size<=σ' c);rw[y];exact hs.bmem _ g r
 .obtain ⟨⟨g,r,_,_⟩,y⟩:=t c ds d;obtain⟨⟨ds1',h1',_,_⟩,h2'⟩:=t D C hc';have e:σ' c=σ' D:=e;rw[y,h2'] at e;exact hinj c D ds C d hc' (hs.inj _ _ g ds1' r h1' e)
 .rcases V p _ hp with ⟨_,e,_⟩|⟨u,rfl,b⟩|⟨c,j,rfl,b,e,_,d⟩
  .cases e
  .exact hs.own (.sl u) z l b
  .rcases d with ⟨_,d⟩|d
   .simp [AV.aI] at d
   .show∃ad k,aw σ' a w (.bx c j)=_/\_;rw[Q c j e,d];rw[d] at b;exact hs.own _ z l b
 .obtain ⟨⟨g,r,_,_⟩,y⟩:=t c ds d;show σ' c≠B;rw[y];exact hs.clbox p B hB _ g r
 .show E.nb<=(B2++[Box.row cs]).length;have:lo=E.nb:=hs.lo;rw[H];omega
 .have:lo=E.nb:=hs.lo;show σ' c=_;rw[I c (by omega)];exact hs.sig c d
 .exact ((hs.sp.loops (bs':=B1) hlp2).step (Hp.le_refl _) (λc d=>I c (R▸d)) (λc x h=>hlp1 c x h) (λ_ _ k _=>k) (λ_ _ _ _ p k=>⟨p,k⟩) (λ_ k=>k))
theorem al.gcB{α:Type}{f:α->AV}{z:Nat}(hp:Plain f z)(own J:List Box)(d i:Nat)(a:List AV){s e:St}{l:List α}{m k k':Nat}(hb:s.bs=wX own d i a (.bsl (own.length+J.length) m k)++(J++[aJ f z k' l]))(c:own[d]? =some (.cells a))(n:Nat.blt i a.length=true)(b:Nat.ble s.lo own.length=true)(he:fO own.length s.env=true)(j:aj own.length own=true)
  (h:al ⟨s.env,wX own d i a (.bsl own.length m k)++[aJ f z k' l],s.lo⟩ e):al s e:=by
 obtain⟨env,bs,lo⟩:=s;simp only at hb;subst hb;exact⟨(aD.gcB c (zr n) (zr b) (λu x hu=>sc he hu) j λx g=>hp.JG l _ _ x g).trans h.out⟩
theorem aD.tE(s:St)(q:Pl)(j:s.at q=some (.sl .full []))(d:(⟨s.env,s.bs++[.row []],s.lo⟩:St).at q=some (.sl .full [])):aD s ((⟨s.env,s.bs++[.row []],s.lo⟩:St).upd q (.bsl s.bs.length 0 0)):=λE G a w hs=>by
 have c:=hs.JH;have b:=c.val _ _ d;simp only[AV.aI] at b;refine⟨G,c.upd (q:=q) d ?_⟩;obtain⟨k,i,B,off,e,g,_,_,_,f,_⟩:=b.cX;have:=f rfl;subst this;rw[g];exact .bsl _ _ _ _ (by simp) (zG _) (zJ _) (λh=>absurd rfl h)
theorem al.tE{s t:St}(q:Pl)(b:s.at q=some (.sl .full []))(a:(⟨s.env,s.bs++[.row []],s.lo⟩:St).at q=some (.sl .full []))(h:al ((⟨s.env,s.bs++[.row []],s.lo⟩:St).upd q (.bsl s.bs.length 0 0)) t):al s t:=⟨(aD.tE s q b a).trans h.out⟩
end Go.AM
