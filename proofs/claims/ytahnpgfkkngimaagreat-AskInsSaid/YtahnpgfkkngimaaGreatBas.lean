/-
  Texts of this aQ joined (wip/gen/bundle.py),those declarations only that are needed:AmRn. By an AI agent.
-/
import Derived.Test.YtahnpgfkkngimaaGreatBar
set_option linter.unusedSimpArgs false
set_option linter.unusedVariables false
namespace Go.AM
open Go.CK Go.RowKit
namespace AV
def rn0(f:Nat->Nat):AV->AV
 |.ptr b o=>.ptr (f b) o
 |.yl b=>.yl (f b)
 |.bsl b m k=>.bsl (f b) m k
 |.elp b i z o=>.elp (f b) i z o
 |.mpt b=>.mpt (f b)
 |x=>x
def rn1(f:Nat->Nat):AV->AV
 |.fn g xs ys=>.fn g (xs.map (rn0 f)) (ys.map (rn0 f))
 |x=>x.rn0 f
def rn2(f:Nat->Nat):AV->AV
 |.agg cs=>.agg (cs.map (rn1 f))
 |x=>x.rn1 f
def rn(f:Nat->Nat):AV->AV
 |.agg cs=>.agg (cs.map (rn1 f))
 |.tup cs=>.tup (cs.map (rn2 f))
 |x=>x.rn1 f
def at0(p:Nat->Bool):AV->Bool
 |.ptr b _=>p b
 |.yl b=>p b
 |.bsl b _ _=>p b
 |.elp b _ _ _=>p b
 |.mpt b=>p b
 |.ept _=>true
 |v=>v.aU
def at1(p:Nat->Bool):AV->Bool
 |.fn _ xs ys=>xs.all (at0 p)&&ys.all (at0 p)
 |v=>v.at0 p
def at2(p:Nat->Bool):AV->Bool
 |.agg cs=>cs.all (at1 p)
 |v=>v.at1 p
def atp(p:Nat->Bool):AV->Bool
 |.agg cs=>cs.all (at1 p)
 |.tup cs=>cs.all (at2 p)
 |.ept _=>true
 |.sl _ _=>true
 |v=>v.at1 p
end AV
section
variable{M:Hp}{σ σ':Nat->Nat}{n n':Nat}{f:Nat->Nat}{p:Nat->Bool}
theorem RV.rn0(hf:∀b,p b=true->b<n->σ' (f b)=σ b/\f b<n'){x:AV}{v:Value}(h:RV M σ n x v)(hp:x.at0 p=true):RV M σ' n' (x.rn0 f) v:=by
 cases x<;>simp only[AV.at0] at hp<;>simp only[AV.rn0]<;>first|exact .flat (h.aU hp)|skip
 case ptr b o=>obtain⟨rfl,hb⟩:=h.gg;obtain⟨h1,h2⟩:=hf b hp hb;rw[<-h1];exact .ptr _ _ h2
 case ept cs=>obtain⟨B,off,rfl,hc⟩:=h.qg;exact .ept cs B off hc
 case yl b=>obtain⟨rfl,hb⟩:=h.Hc;obtain⟨h1,h2⟩:=hf b hp hb;rw[<-h1];exact .yl _ h2
 case bsl b m k=>obtain⟨a,rfl,hb,h3,h4,h5⟩:=h.dH;obtain⟨h1,h2⟩:=hf b hp hb;exact .bsl _ _ _ a h2 h3 h4 (by rw[h1];exact h5)
 case elp b i z o=>obtain⟨rfl,hb⟩:=h.qh;obtain⟨h1,h2⟩:=hf b hp hb;rw[<-h1];exact .elp _ _ _ _ h2
 case mpt b=>obtain⟨rfl,hb⟩:=h.gh;obtain⟨h1,h2⟩:=hf b hp hb;rw[<-h1];exact .mpt _ h2
theorem RV.rn1(hf:∀b,p b=true->b<n->σ' (f b)=σ b/\f b<n'){x:AV}{v:Value}(h:RV M σ n x v)(hp:x.at1 p=true):RV M σ' n' (x.rn1 f) v:=by
 cases x<;>first|exact RV.rn0 hf h hp|skip
 case fn g xs ys=>
  simp only[AV.at1,ZD,ZS] at hp;obtain⟨us,vs,rfl,h1,h2,h3,h4⟩:=h.pf;refine .fn g _ _ us vs (by simpa using h1) (by simpa using h2) (λj hj v hv=>?_) (λj hj v hv=>?_)
  .simp only[ZF] at hj;rw[YA];exact RV.rn0 hf (h3 j hj v hv) (hp.1 _ (Zc hj))
  .simp only[ZF] at hj;rw[YA];exact RV.rn0 hf (h4 j hj v hv) (hp.2 _ (Zc hj))
theorem RV.Jy(hf:∀b,p b=true->b<n->σ' (f b)=σ b/\f b<n'){cs:List AV}{v:Value}(h:RV M σ n (.agg cs) v)(hp:cs.all (AV.at1 p)=true):RV M σ' n' (.agg (cs.map (AV.rn1 f))) v:=by
 simp only[ZS] at hp;obtain⟨vs,rfl,hl,h1,hv⟩:=h.eA;refine .agg _ vs (by simpa using hl) h1 λj hj v hjv=>?_
 simp only[ZF] at hj;rw[YA];exact RV.rn1 hf (hv j hj v hjv) (hp _ (Zc hj))
theorem RV.rn2(hf:∀b,p b=true->b<n->σ' (f b)=σ b/\f b<n'){x:AV}{v:Value}(h:RV M σ n x v)(hp:x.at2 p=true):RV M σ' n' (x.rn2 f) v:=by
 cases x<;>first|exact RV.rn1 hf h hp|exact RV.Jy hf h hp
theorem RV.rn(hf:∀b,p b=true->b<n->σ' (f b)=σ b/\f b<n'){x:AV}{v:Value}(h:RV M σ n x v)(hp:x.atp p=true):RV M σ' n' (x.rn f) v:=by
 cases x<;>first|exact RV.rn1 hf h hp|exact RV.Jy hf h hp|skip
 case sl o l=>
  cases h with|flat h=>exact .flat h
 case tup cs=>
  simp only[AV.atp,ZS] at hp;obtain⟨vs,rfl,hl,hv⟩:=h.s8;refine .tup _ vs (by simpa using hl) λj hj v hjv=>?_
  simp only[ZF] at hj;rw[YA];exact RV.rn2 hf (hv j hj v hjv) (hp _ (Zc hj))
end
theorem mQ(f:Nat->Nat)(x:AV):(x.rn f).aF=x.aF.rn f:=by
 cases x with
 |sl o l=>cases o<;>rfl
 |_=>rfl
theorem k7(p:Nat->Bool)(x:AV):x.aF.atp p=x.atp p:=by
 cases x with
 |sl o l=>cases o<;>rfl
 |_=>rfl
theorem tw{f:Nat->Nat}{x:AV}{z:Nat}{l:List AV}(h:x.rn f=.sl (.own z) l):x=.sl (.own z) l:=by
 cases x<;>simp only[AV.rn,AV.rn1,AV.rn0] at h<;>first|exact h|cases h
theorem JZ{f:Nat->Nat}{x:AV}(h:x.aU=true):x.rn f=x:=by
 cases x<;>first|rfl|(simp[AV.aU] at h)
def rnB(f:Nat->Nat):Box->Box
 |.cells cs=>.cells (cs.map (AV.rn f))
 |x=>x
def atB(p:Nat->Bool):Box->Bool
 |.cells cs=>cs.all (AV.atp p)
 |.row cs=>cs.all AV.aU
 |.loop _=>false
 |_=>true
def wJ(p:Nat->Bool):List Box->Bool
 |[]=>true
 |x::r=>atB p x&&wJ p r
theorem BM{p:Nat->Bool}:∀{bs:List Box} {k:Nat} {x:Box},wJ p bs=true->bs[k]? =some x->atB p x=true
 |y::r,0,x,h,hk=>by
  simp only[wJ,ZD] at h
  simp at hk;subst hk;exact h.1
 |y::r,k+1,x,h,hk=>by
  simp only[wJ,ZD] at h
  exact BM h.2 (by simpa using hk)
 |[],k,x,_,hk=>by simp at hk
def rD:List Nat->Nat->Nat->Option Nat
 |[],_,_=>none
 |i::is,b,k=>match Nat.beq i b with
  |true=>some k
  |false=>rD is b (k+1)
theorem gO:∀{is:List Nat} {b k q:Nat},rD is b k=some q->k<=q/\is[q-k]? =some b
 |i::is,b,k,q,h=>by
  simp only[rD] at h;split at h
  .rename_i hb;cases h;have:=ZO hb;subst this;simp
  .obtain ⟨h1,h2⟩:=gO h;refine⟨by omega,?_⟩
   rw[show q-k=(q-(k+1))+1 by omega]
   simpa using h2
theorem rC:∀{is:List Nat} {b k:Nat},rD is b k=none->b∉is
 |[],b,k,_,hm=>by cases hm
 |i::is,b,k,h,hm=>by
  simp only[rD] at h;split at h
  .cases h
  .rename_i hb;rcases ZI.1 hm with rfl|hm
   .simp at hb
   .exact rC h hm
theorem uy{is:List Nat}(hnd:is.Nodup){k b:Nat}(h:is[k]? =some b):rD is b 0=some k:=by
 cases hq:rD is b 0 with
 |none=>exact absurd (ZE h) (rC hq)
 |some q=>
  obtain⟨_,h1⟩:=gO hq;rw[XL] at h1;obtain⟨hk,ek⟩:=ZB.1 h;obtain⟨hq',eq⟩:=ZB.1 h1;have:=(List.getElem_inj (h₀:=hq') (h₁:=hk) hnd).1 (eq.trans ek.symm);rw[this]
def sT(is:List Nat)(b:Nat):Bool:=match rD is b 0 with
 |some _=>true
 |none=>false
def rho(is:List Nat)(b:Nat):Nat:=match rD is b 0 with
 |some k=>k
 |none=>0
def uc:List Nat->Nat->Option Nat
 |[],_=>none
 |i::_,0=>some i
 |_::is,k+1=>uc is k
theorem ig:∀(is:List Nat) (k:Nat),uc is k=is[k]?
 |[],k=>by simp[uc]
 |i::is,0=>rfl
 |i::is,k+1=>by simp[uc,ig is k]
def pie(is:List Nat)(N:Nat)(k:Nat):Nat:=match uc is k with
 |some b=>b
 |none=>N+(k-is.length)
def je:List Box->Nat->Box
 |[],_=>.dead
 |x::_,0=>x
 |_::r,k+1=>je r k
theorem kY:∀{bs:List Box} {k:Nat} {x:Box},bs[k]? =some x->je bs k=x
 |[],k,x,h=>by simp at h
 |y::r,0,x,h=>by simpa[je] using h
 |y::r,k+1,x,h=>by simpa[je] using kY (bs:=r) (k:=k) (by simpa using h)
def cut(is:List Nat)(cur:List Box):List Nat->List Box
 |[]=>[]
 |i::l=>rnB (rho is) (je cur i)::cut is cur l
theorem D5(is:List Nat)(cur:List Box):∀(l:List Nat) (k:Nat),(cut is cur l)[k]? =(l[k]?).map λi=>rnB (rho is) (je cur i)
 |[],k=>by simp[cut]
 |i::l,0=>by simp[cut]
 |i::l,k+1=>by simp[cut,D5 is cur l k]
theorem u6(is:List Nat)(cur:List Box):∀l:List Nat,(cut is cur l).length=l.length
 |[]=>rfl
 |i::l=>by simp[cut,u6 is cur l]
def sD(is:List Nat)(N:Nat)(bs':List Box):Nat->List Box->List Box
 |_,[]=>[]
 |b,x::r=>(match rD is b 0 with
  |some k=>rnB (pie is N) (je bs' k)
  |none=>x)::sD is N bs' (b+1) r
def sQ(f:Nat->Nat):Nat->List Box->List Box
 |_,[]=>[]
 |0,x::r=>rnB f x::sQ f 0 r
 |n+1,_::r=>sQ f n r
def back(is:List Nat)(cur bs':List Box):List Box:=sD is cur.length bs' 0 cur++sQ (pie is cur.length) is.length bs'
theorem eJ(is:List Nat)(N:Nat)(bs':List Box):∀(cur:List Box) (b:Nat),(sD is N bs' b cur).length=cur.length
 |[],b=>rfl
 |x::r,b=>by simp[sD,eJ is N bs' r]
theorem xY(is:List Nat)(N:Nat)(bs':List Box):∀(cur:List Box) (b k:Nat),(sD is N bs' b cur)[k]? =(cur[k]?).map λx=>match rD is (b+k) 0 with
  |some q=>rnB (pie is N) (je bs' q)
  |none=>x
 |[],b,k=>by simp[sD]
 |x::r,b,0=>by simp[sD]
 |x::r,b,k+1=>by
  simp only[sD,List.getElem?_cons_succ,xY is N bs' r];rw[show b+1+k=b+(k+1) by omega]
theorem tZ(f:Nat->Nat):∀(bs':List Box) (n k:Nat),(sQ f n bs')[k]? =(bs'[n+k]?).map (rnB f)
 |[],n,k=>by cases n<;>simp[sQ]
 |x::r,0,0=>by simp[sQ]
 |x::r,0,k+1=>by simpa[sQ] using tZ f r 0 k
 |x::r,n+1,k=>by
  simp only[sQ,tZ f r n k];rw[show n+1+k=(n+k)+1 by omega]
  simp
theorem nd(f:Nat->Nat):∀(bs':List Box) (n:Nat),(sQ f n bs').length=bs'.length-n
 |[],n=>by cases n<;>simp[sQ]
 |x::r,0=>by simp[sQ,nd f r 0]
 |x::r,n+1=>by simp[sQ,nd f r n]
theorem Bz(is:List Nat)(cur bs':List Box):(back is cur bs').length=cur.length+(bs'.length-is.length):=by
 simp[back,eJ,nd]
def bg(is:List Nat)(N:Nat)(b:Nat):Option Nat:=if b<N then rD is b 0 else some (is.length+(b-N))
theorem HJ(is:List Nat)(cur bs':List Box)(b:Nat):(∀k,bg is cur.length b=some k->k<bs'.length->(back is cur bs')[b]? =(bs'[k]?).map (rnB (pie is cur.length)))/\(bg is cur.length b=none->(back is cur bs')[b]? =cur[b]?):=by
 unfold bg back
 by_cases hb:b<cur.length
 .simp only[if_pos hb];rw[ZK (by rw[eJ];exact hb),xY,YG,ZA hb]
  refine⟨λk hk hlt=>?_,λhk=>?_⟩
  .rw [hk,ZA hlt];simp only[ZM];rw[kY (ZA hlt)]
  .rw [hk];rfl
 .simp only[if_neg hb];refine⟨λk hk hlt=>?_,λhk=>by cases hk⟩
  cases hk;rw[ZZ (by rw[eJ];omega),eJ,tZ]
theorem DA{is:List Nat}{N b k:Nat}(h:bg is N b=some k)(hin:∀i∈is,i<N):pie is N k=b:=by
 unfold bg at h;unfold pie;rw[ig]
 by_cases hb:b<N
 .rw [if_pos hb] at h;obtain⟨_,h1⟩:=gO h;rw[XL] at h1;rw[h1]
 .rw [if_neg hb] at h;cases h;rw[ZR (by omega)]
  simp only;omega
theorem Ij{is:List Nat}{N:Nat}(hnd:is.Nodup)(hin:∀i∈is,i<N)(k:Nat):bg is N (pie is N k)=some k:=by
 unfold pie;rw[ig]
 cases hk:is[k]? with
 |some b=>
  simp only[bg]
  rw[if_pos (hin b (ZE hk)),uy hnd hk]
 |none=>
  have hlen:is.length<=k:=by
   rcases Zs k is.length with h|h
   .rw [ZA h] at hk;cases hk
   .exact h
  simp only[bg];rw[if_neg (by omega)]
  congr 1;omega
theorem Cd(f:Nat->Nat){p:Nat->Bool}{x:Box}(h:atB p x=true):(rnB f x).cs? =x.cs?.map (List.map (AV.rn f)):=by
 cases x<;>first|rfl|skip
 case row cs=>
  simp only[atB,ZS] at h
  cases cs with
  |nil=>rfl
  |cons c cs=>
   show some (c::cs)=some ((c::cs).map (AV.rn f));congr 1;exact((List.map_congr_left λy hy=>JZ (h y hy)).trans (List.map_id' _)).symm
theorem Cc(f:Nat->Nat)(x:Box):(rnB f x).lb? =x.lb?:=by cases x<;>rfl
theorem rQ{p:Nat->Bool}{x:Box}{cs:List AV}(h:atB p x=true)(hc:x.cs? =some cs):∀c∈cs,c.atp p=true:=by
 cases x with
 |cells ds=>cases hc;simpa[atB] using h
 |row ds=>
  rw[lx] at hc;split at hc
  .cases hc
  .cases hc;simp only[atB,ZS] at h;intro c hcm;have:=h c hcm
   cases c<;>first|rfl|(simp[AV.aU] at this)
 |dead=>cases hc
 |loop y=>cases hc
 |mp l=>cases hc
 |mq l c=>cases hc
theorem C6{p:Nat->Bool}{x:Box}{y:LB}(h:atB p x=true)(hc:x.lb? =some y):y.n=0/\∀M:Hp,y.M.le M:=by
 cases x<;>simp only[Box.lb?,ZN,atB] at hc h<;>first|(cases hc;done)|(cases h;done)|skip
 all_goals
  subst hc;exact⟨rfl,λM _ _ _ e=>by cases e⟩
theorem Sem.ren{P:Program}{f:FuncId}{vals:List AV}{cur:List Box}{Q:AV->List Box->Prop}(is:List Nat)(hnd:is.Nodup)(hin:∀i∈is,i<cur.length)
  (hv:∀x∈vals,x.atp (sT is)=true) (hb:∀i∈is,atB (sT is) (je cur i)=true)
  (h:Sem P f (vals.map (AV.rn (rho is))) (cut is cur is) λr bs'=>(is.length<=bs'.length/\r.atp (λb=>decide (b<bs'.length))=true/\wJ (λb=>decide (b<bs'.length)) bs'=true)/\Q r bs'):
  Sem P f vals cur λr cur'=>∃r0 bs',Q r0 bs'/\r=r0.rn (pie is cur.length)/\cur'=back is cur bs':=by
 intro E G a0 w args lo hpre hl hvals
 have hcb:∀k,k<is.length->∃i x,is[k]? =some i/\cur[i]? =some x/\(cut is cur is)[k]? =some (rnB (rho is) x)/\atB (sT is) x=true:=λk hk=>by
  have hi:is[k]? =some is[k]:=ZA hk;have hlt:=hin _ (Zc hk);have hx:cur[is[k]]? =some cur[is[k]]:=ZA hlt;refine⟨_,_,hi,hx,?_,?_⟩
  .rw [D5,hi];simp only[ZM];rw[kY hx]
  .have:=hb _ (Zc hk)
   rwa [kY hx] at this
 have hcl:(cut is cur is).length=is.length:=u6 _ _ _
 have hk_lt:∀{k:Nat} {y:Box},(cut is cur is)[k]? =some y->k<is.length:=λ{k y} hy=>by
  have:=(ZB.1 hy).1;omega
 obtain⟨Gc,hGc⟩:∃Gc:Gh,Gc=⟨G.M,λk=>G.σ ((uc is k).getD 0),λp=>match p with|.sl _=>none|.bx k j=>match uc is k with|some i=>G.cl (.bx i j)|none=>none⟩:=⟨_,rfl⟩;have hσc:∀{k i:Nat},is[k]? =some i->Gc.σ k=G.σ i:=λ{k i} hk=>by rw[hGc];simp only[ig,hk,YR]
 have hclc:∀{k i:Nat} (j:Nat),is[k]? =some i->Gc.cl (.bx k j)=G.cl (.bx i j):=λ{k i} j hk=>by rw[hGc];simp only[ig,hk]
 have hclc2:∀{p:Pl} {B:Nat},Gc.cl p=some B->∃k i j,p=.bx k j/\is[k]? =some i/\G.cl (.bx i j)=some B:=λ{p B} hp=>by
  rw[hGc] at hp
  cases p with
  |sl t=>cases hp
  |bx k j=>
   simp only[ig] at hp
   cases hk:is[k]? with
   |none=>rw[hk] at hp;cases hp
   |some i=>rw[hk] at hp;exact⟨k,i,j,rfl,hk,hp⟩
 have hMc:Gc.M=G.M:=by rw[hGc]
 have hcells:∀{k:Nat} {cs:List AV},aa (cut is cur is) k=some cs->∃i ds,is[k]? =some i/\aa cur i=some ds/\cs=ds.map (AV.rn (rho is))/\∀c∈ds,c.atp (sT is)=true:=λ{k cs} hc=>by
  unfold aa at hc;split at hc
  .rename_i y hy;obtain⟨i,x,h1,h2,h3,h4⟩:=hcb k (hk_lt hy);rw[h3] at hy;cases hy;rw[Cd _ h4] at hc
   cases hx:x.cs? with
   |none=>rw[hx] at hc;cases hc
   |some ds=>
    rw[hx] at hc;simp only[ZM,ZN] at hc;exact⟨i,ds,h1,by simp only[aa,h2,hx],hc.symm,rQ h4 hx⟩
  .cases hc
 have hloops:∀{k:Nat} {x:LB},ag (cut is cur is) k=some x->∃i,is[k]? =some i/\ag cur i=some x/\x.n=0/\∀M:Hp,x.M.le M:=λ{k x} hc=>by
  unfold ag at hc;split at hc
  .rename_i y hy;obtain⟨i,z,h1,h2,h3,h4⟩:=hcb k (hk_lt hy);rw[h3] at hy;cases hy;rw[Cc] at hc;exact⟨i,h1,by simp only[ag,h2,hc],C6 h4 hc⟩
  .cases hc
 have ixk:∀{k k' i:Nat},is[k]? =some i->is[k']? =some i->k=k':=λ{k k' i} h1 h2=>by
  have e1:=uy hnd h1;have e2:=uy hnd h2;rw[e1] at e2;exact XV e2
 have hrho:∀b,sT is b=true->∃k,is[k]? =some b/\rho is b=k:=λb hb=>by
  unfold sT at hb;unfold rho
  cases hq:rD is b 0 with
  |none=>rw[hq] at hb;cases hb
  |some k=>
   obtain⟨_,h1⟩:=gO hq;exact⟨k,by simpa using h1,rfl⟩
 have toC:∀{x:AV} {v:Value},RV G.M G.σ cur.length x v->x.atp (sT is)=true->RV Gc.M Gc.σ (cut is cur is).length (x.rn (rho is)) v:=λ{x v} hx hp=>by
  rw[hMc];refine hx.rn (λb hb _=>?_) hp;obtain⟨k,h1,h2⟩:=hrho b hb;rw[h2,hσc h1,hcl];exact⟨rfl,(ZB.1 h1).1⟩
 have hat:∀{p:Pl} {x:AV},(⟨[],cut is cur is,0⟩:St).at p=some x->∃k i j y,p=.bx k j/\is[k]? =some i/\(⟨[],cur,lo⟩:St).at (.bx i j)=some y/\x=y.rn (rho is)/\y.atp (sT is)=true:=λ{p x} hp=>by
  cases p with
  |sl t=>simp[St.at,ak] at hp
  |bx k j=>
   simp only[St.at] at hp
   cases hb:aa (cut is cur is) k with
   |none=>rw[hb] at hp;cases hp
   |some cs=>
    obtain⟨i,ds,h1,h2,h3,h4⟩:=hcells hb;rw[hb,h3] at hp;simp only[YE,YD] at hp
    cases hj:ds[j]? with
    |none=>rw[hj] at hp;cases hp
    |some y=>
     rw[hj] at hp;simp only[ZM,ZN] at hp;exact⟨k,i,j,y,rfl,h1,by simp only[St.at,h2,YE,hj],hp.symm,h4 y (ZE hj)⟩
 have hval:∀{k i:Nat} (j:Nat),is[k]? =some i->al Gc.σ ⟨#[],[]⟩ w (.bx k j)=al G.σ a0 w (.bx i j):=λ{k i} j hk=>by simp only[al,hσc hk]
 have hpreC:RS ⟨λ_=>True,G.M,w,0,0,Gc.σ,[]⟩ Gc ⟨[],cut is cur is,0⟩ ⟨#[],[]⟩ w:=by
  refine⟨by rw[hMc];exact Fr.refl _ _ _,by rw[hMc];exact hpre.ok,rfl,λp x hp=>?_,λk j x hp=>?_,λk cs hk=>?_,λk cs hk=>?_,λk k' cs cs' hk hk' e=>?_,λp z l hp=>?_,λp q B hp hq=>?_,λp B hp k cs hk=>?_,λp B hp=>?_,rfl,ZJ _,λ_ _=>rfl,?_⟩
  .obtain ⟨k,i,j,y,rfl,h1,h2,rfl,h4⟩:=hat hp;show RV Gc.M Gc.σ (cut is cur is).length _ (al Gc.σ ⟨#[],[]⟩ w (.bx k j));rw[mQ,hval j h1];exact toC (hpre.val _ _ h2) (by rw[k7];exact h4)
  .obtain ⟨k',i,j',y,e,h1,h2,_,_⟩:=hat hp;cases e;rw[hval _ h1];exact hpre.one _ _ _ h2
  .obtain ⟨i,ds,h1,h2,rfl,_⟩:=hcells hk;rw[hσc h1,ZF];exact hpre.box i ds h2
  .obtain ⟨i,ds,h1,h2,rfl,_⟩:=hcells hk;rw[hσc h1,hMc];exact⟨(hpre.bmem i ds h2).1,.inl trivial⟩
  .obtain ⟨i,ds,h1,h2,_,_⟩:=hcells hk;obtain⟨i',ds',h1',h2',_,_⟩:=hcells hk';rw[hσc h1,hσc h1'] at e;have:=hpre.inj i i' ds ds' h2 h2' e;subst this;exact ixk h1 h1'
  .obtain ⟨k,i,j,y,rfl,h1,h2,h3,_⟩:=hat hp;have hy:=tw h3.symm;subst hy;obtain⟨ad,kk,q1,q2,q3⟩:=hpre.own _ _ _ h2;refine⟨ad,kk,by rw[hval j h1];exact q1,q2,?_⟩
   rcases q3 with q3|⟨B,hB,q4,q5⟩
   .exact .inl q3
   .refine .inr ⟨B,by rw[hclc j h1];exact hB,q4,q5.lt,q5.cells,by rw[hMc];exact q5.free,.inl trivial⟩
  .obtain ⟨k,i,j,rfl,h1,h2⟩:=hclc2 hp;obtain⟨k',i',j',rfl,h1',h2'⟩:=hclc2 hq;have:=hpre.clinj _ _ B h2 h2';cases this;have:=ixk h1 h1';subst this;rfl
  .obtain ⟨k',i',j',rfl,h1',h2'⟩:=hclc2 hp;obtain⟨i,ds,h1,h2,_,_⟩:=hcells hk;rw[hσc h1];exact hpre.clbox _ B h2' i ds h2
  .obtain ⟨k,i,j,rfl,h1,h2⟩:=hclc2 hp;exact⟨(hpre.cllt _ B h2).1,.inl trivial⟩
  .refine ⟨λB o hs=>?_,λk x hk=>?_,λk k' x x' hk hk' e=>?_,[],rfl,.nil⟩
   .rcases hs with ⟨k,x,hk,e,ho⟩|⟨hmem,_⟩
    .obtain ⟨i,h1,h2,_,_⟩:=hloops hk;rw[hσc h1] at e;obtain⟨q1,q2,_⟩:=hpre.sp.ob B o (.inl ⟨i,x,h2,e,ho⟩);refine⟨q1,λp hp=>?_,.inl trivial⟩;obtain⟨k',i',j',rfl,h1',h2'⟩:=hclc2 hp;exact q2 _ h2'
    .cases hmem
   .obtain ⟨i,h1,h2,h3,h4⟩:=hloops hk;exact⟨h4 _,by omega,λc hc=>by omega⟩
   .obtain ⟨i,h1,h2,_,_⟩:=hloops hk;obtain⟨i',h1',h2',_,_⟩:=hloops hk';rw[hσc h1,hσc h1'] at e;have:=hpre.sp.inj i i' x x' h2 h2' e;subst this;exact ixk h1 h1'
 refine(h _ Gc _ w args 0 hpreC (by simpa using hl) (λj hj v hjv=>?_)).mono ?_
 .simp only[ZF] at hj;rw[YA];exact toC (hvals j hj v hjv) (hv _ (Zc hj))
 rintro e w' ⟨v,r,bs',G',rfl,⟨⟨hlen,hrat,hball⟩,hq⟩,h'⟩;have hwsz:w.heap.size<=w'.heap.size:=h'.fr.size;have hfr:Fr (dV Gc (cut is cur is)) G.M w G'.M w':=by have:=h'.fr;rw[<-hMc];exact this
 have toG:∀B,dV Gc (cut is cur is) B->dV G cur B:=λB hB=>by
  rcases hB with ⟨k,cs,hk,e⟩|⟨k,j,hk⟩|⟨k,x,hk,e⟩
  .obtain ⟨i,ds,h1,h2,_,_⟩:=hcells hk;exact .inl ⟨i,ds,h2,by rw[<-hσc h1];exact e⟩
  .obtain ⟨k',i,j',e,h1,h2⟩:=hclc2 hk;exact .inr (.inl ⟨i,j',h2⟩)
  .obtain ⟨i,h1,h2,_,_⟩:=hloops hk;exact .inr (.inr ⟨i,x,h2,by rw[<-hσc h1];exact e⟩)
 have no1:∀{b:Nat} {cs:List AV},b∉is->aa cur b=some cs->¬dV Gc (cut is cur is) (G.σ b):=λ{b cs} hbi hb hB=>by
  rcases hB with ⟨k,cs',hk,e⟩|⟨k,j,hk⟩|⟨k,x,hk,e⟩
  .obtain ⟨i,ds,h1,h2,_,_⟩:=hcells hk;rw[hσc h1] at e;have:=hpre.inj i b ds cs h2 hb e;subst this;exact hbi (ZE h1)
  .obtain ⟨k',i,j',e,h1,h2⟩:=hclc2 hk;exact hpre.clbox _ _ h2 b cs hb rfl
  .obtain ⟨i,h1,h2,_,_⟩:=hloops hk;rw[hσc h1] at e;obtain⟨vs,T,q1,_⟩:=hpre.box b cs hb;have q2:=(hpre.sp.ob _ _ (.inl ⟨i,x,h2,e,rfl⟩)).1;exact x.yS (q1.symm.trans q2)
 have no2:∀{b:Nat} {x:LB},b∉is->ag cur b=some x->¬dV Gc (cut is cur is) (G.σ b):=λ{b x} hbi hb hB=>by
  have q0:=hpre.sp.ob _ _ (.inl ⟨b,x,hb,rfl,rfl⟩);rcases hB with ⟨k,cs',hk,e⟩|⟨k,j,hk⟩|⟨k,y,hk,e⟩
  .obtain ⟨i,ds,h1,h2,_,_⟩:=hcells hk;rw[hσc h1] at e;obtain⟨vs,T,q1,_⟩:=hpre.box i ds h2;rw[e] at q1;exact x.yS (q1.symm.trans q0.1)
  .obtain ⟨k',i,j',e,h1,h2⟩:=hclc2 hk;exact q0.2.1 _ h2
  .obtain ⟨i,h1,h2,_,_⟩:=hloops hk;rw[hσc h1] at e;have:=hpre.sp.inj i b y x h2 hb e;subst this;exact hbi (ZE h1)
 have no3:∀{b j B:Nat},b∉is->G.cl (.bx b j)=some B->¬dV Gc (cut is cur is) B:=λ{b j B} hbi hb hB=>by
  rcases hB with ⟨k,cs',hk,e⟩|⟨k,j',hk⟩|⟨k,y,hk,e⟩
  .obtain ⟨i,ds,h1,h2,_,_⟩:=hcells hk;rw[hσc h1] at e;exact hpre.clbox _ B hb i ds h2 e
  .obtain ⟨k',i,j'',e,h1,h2⟩:=hclc2 hk;have:=hpre.clinj _ _ B h2 hb;cases this;exact hbi (ZE h1)
  .obtain ⟨i,h1,h2,_,_⟩:=hloops hk;rw[hσc h1] at e
   exact(hpre.sp.ob _ _ (.inl ⟨i,y,h2,e,rfl⟩)).2.1 _ hb
 --the new state of knowledge
 obtain⟨N,hN⟩:∃N,N=cur.length:=⟨_,rfl⟩;obtain⟨G2,hG2⟩:∃G2:Gh,G2=⟨G'.M,λb=>match bg is N b with|some k=>G'.σ k|none=>G.σ b,λp=>match p with|.sl 0=>G'.cl (.sl 0)|.sl _=>none|.bx b j=>match bg is N b with|some k=>G'.cl (.bx k j)|none=>G.cl (.bx b j)⟩:=⟨_,rfl⟩;have hM2:G2.M=G'.M:=by rw[hG2]
 have σ1:∀{b k:Nat},bg is N b=some k->G2.σ b=G'.σ k:=λ{b k} e=>by rw[hG2];simp only[e]
 have σ2:∀{b:Nat},bg is N b=none->G2.σ b=G.σ b:=λ{b} e=>by rw[hG2];simp only[e]
 have cl1:∀{b k:Nat} (j:Nat),bg is N b=some k->G2.cl (.bx b j)=G'.cl (.bx k j):=λ{b k} j e=>by rw[hG2];simp only[e]
 have cl2:∀{b:Nat} (j:Nat),bg is N b=none->G2.cl (.bx b j)=G.cl (.bx b j):=λ{b} j e=>by rw[hG2];simp only[e]
 have cl0:G2.cl (.sl 0)=G'.cl (.sl 0):=by rw[hG2];rfl
 have clS:∀{t B:Nat},G2.cl (.sl t)=some B->t=0:=λ{t B} e=>by
  rw[hG2] at e
  cases t with
  |zero=>rfl
  |succ t=>cases e
 have hinN:∀i∈is,i<N:=by rw[hN];exact hin
 have src0:∀{b:Nat},bg is N b=none->b∉is/\b<N:=λ{b} e=>by
  unfold bg at e;split at e
  .rename_i hb;exact⟨rC e,hb⟩
  .cases e
 have srcI:∀{b b' k:Nat},bg is N b=some k->bg is N b'=some k->b=b':=λ{b b' k} e e'=>(DA e hinN).symm.trans (DA e' hinN)
 have hsigC:∀{k i:Nat},is[k]? =some i->G'.σ k=G.σ i:=λ{k i} hk=>by
  have:=h'.sig k (by show k<(cut is cur is).length;rw[hcl];exact(ZB.1 hk).1)
  exact this.trans (hσc hk)
 have hσN:∀b,b<N->G2.σ b=G.σ b:=λb hb=>by
  cases e:bg is N b with
  |none=>exact σ2 e
  |some k=>
   rw[σ1 e];refine hsigC ?_;unfold bg at e;rw[if_pos hb] at e;simpa using(gO e).2
 have hblen:(back is cur bs').length=N+(bs'.length-is.length):=by rw[Bz,hN]
 have hpie:∀k,k<bs'.length->G2.σ (pie is N k)=G'.σ k/\pie is N k<(back is cur bs').length:=λk hk=>by
  refine⟨σ1 (Ij hnd hinN k),?_⟩;rw[hblen];unfold pie;rw[ig]
  cases e:is[k]? with
  |some b=>have:=hinN b (ZE e);simp only;omega
  |none=>
   simp only
   have:is.length<=k:=by
    rcases Zs k is.length with h|h
    .rw [ZA h] at e;cases e
    .exact h
   omega
 have srcLt:∀{b k:Nat} {y:Box},bg is N b=some k->(back is cur bs')[b]? =some y->k<bs'.length:=λ{b k y} e hy=>by
  have hb:=(ZB.1 hy).1;rw[hblen] at hb;unfold bg at e;split at e
  .have:=(ZB.1 (gO e).2).1;omega
  .cases e;omega
 have bget:∀{b:Nat} {y:Box},(back is cur bs')[b]? =some y->(∃k x,bg is N b=some k/\bs'[k]? =some x/\y=rnB (pie is N) x/\atB (λb=>decide (b<bs'.length)) x=true)\/(bg is N b=none/\cur[b]? =some y):=λ{b y} hy=>by
  obtain⟨q1,q2⟩:=HJ is cur bs' b;rw[<-hN] at q1 q2
  cases e:bg is N b with
  |some k=>
   have hlt:=srcLt e hy;have hx:bs'[k]? =some bs'[k]:=ZA hlt;rw[q1 k e hlt,hx] at hy;simp only[ZM,ZN] at hy
   exact .inl ⟨k,_,rfl,hx,hy.symm,BM hball hx⟩
  |none=>rw[q2 e] at hy;exact .inr ⟨rfl,hy⟩
 have bcells:∀{b:Nat} {cs:List AV},aa (back is cur bs') b=some cs->(∃k ds,bg is N b=some k/\aa bs' k=some ds/\cs=ds.map (AV.rn (pie is N))/\∀c∈ds,c.atp (λb=>decide (b<bs'.length))=true)\/(bg is N b=none/\aa cur b=some cs):=λ{b cs} hc=>by
  unfold aa at hc;split at hc
  .rename_i y hy;rcases bget hy with ⟨k,x,e,hx,rfl,hat⟩|⟨e,hx⟩
   .rw [Cd _ hat] at hc
    cases hxc:x.cs? with
    |none=>rw[hxc] at hc;cases hc
    |some ds=>
     rw[hxc] at hc;simp only[ZM,ZN] at hc;exact .inl ⟨k,ds,e,by simp only[aa,hx,hxc],hc.symm,rQ hat hxc⟩
   .exact .inr ⟨e,by simp only[aa,hx,hc]⟩
  .cases hc
 have bloops:∀{b:Nat} {x:LB},ag (back is cur bs') b=some x->(∃k,bg is N b=some k/\ag bs' k=some x/\x.n=0/\∀M:Hp,x.M.le M)\/(bg is N b=none/\ag cur b=some x):=λ{b x} hc=>by
  unfold ag at hc;split at hc
  .rename_i y hy;rcases bget hy with ⟨k,z,e,hz,rfl,hat⟩|⟨e,hz⟩
   .rw [Cc] at hc;exact .inl ⟨k,e,by simp only[ag,hz,hc],C6 hat hc⟩
   .exact .inr ⟨e,by simp only[ag,hz,hc]⟩
  .cases hc
 have toN:∀{x:AV} {v:Value},RV G'.M G'.σ bs'.length x v->x.atp (λb=>decide (b<bs'.length))=true->RV G2.M G2.σ (back is cur bs').length (x.rn (pie is N)) v:=λ{x v} hx hp=>by
  rw[hM2];exact hx.rn (λb hb hlt=>hpie b hlt) hp
 have keep:∀{x:AV} {v:Value},RV G.M G.σ cur.length x v->RV G2.M G2.σ (back is cur bs').length x v:=λ{x v} hx=>by
  rw[hM2];exact hx.mono hfr.le (by rw[hblen,hN];omega) (λb hb=>hσN b (by rw[hN];exact hb))
 have hat2:∀{p:Pl} {x:AV},(⟨[(0,r.rn (pie is N))],back is cur bs',N⟩:St).at p=some x->(p=.sl 0/\x=r.rn (pie is N))\/(∃b j k y,p=.bx b j/\bg is N b=some k/\(⟨[(0,r)],bs',(cut is cur is).length⟩:St).at (.bx k j)=some y/\x=y.rn (pie is N)/\y.atp (λb=>decide (b<bs'.length))=true)\/(∃b j,p=.bx b j/\bg is N b=none/\(⟨[],cur,lo⟩:St).at (.bx b j)=some x):=λ{p x} hp=>by
  cases p with
  |sl t=>
   simp only[St.at,ak] at hp;split at hp
   .rename_i hb;have:=ZO hb;subst this;cases hp;exact .inl ⟨rfl,rfl⟩
   .cases hp
  |bx b j=>
   simp only[St.at] at hp
   cases hb:aa (back is cur bs') b with
   |none=>rw[hb] at hp;cases hp
   |some cs=>
    rw[hb] at hp;simp only[YE] at hp;rcases bcells hb with ⟨k,ds,e,hk,rfl,hat⟩|⟨e,hk⟩
    .rw [YD] at hp
     cases hj:ds[j]? with
     |none=>rw[hj] at hp;cases hp
     |some y=>
      rw[hj] at hp;simp only[ZM,ZN] at hp;exact .inr (.inl ⟨b,j,k,y,rfl,e,by simp only[St.at,hk,YE,hj],hp.symm,hat y (ZE hj)⟩)
    .exact .inr (.inr ⟨b,j,rfl,e,by simp only[St.at,hk,YE,hp]⟩)
 have va1:∀{b k:Nat} (j:Nat),bg is N b=some k->al G2.σ ⟨#[v],[]⟩ w' (.bx b j)=al G'.σ ⟨#[v],[]⟩ w' (.bx k j):=λ{b k} j e=>by simp only[al,σ1 e]
 have va2:∀{b:Nat} (j:Nat) {x:AV},bg is N b=none->(⟨[],cur,lo⟩:St).at (.bx b j)=some x->al G2.σ ⟨#[v],[]⟩ w' (.bx b j)=al G.σ a0 w (.bx b j):=λ{b} j {x} e hx=>by
  simp only[St.at] at hx
  cases hb:aa cur b with
  |none=>rw[hb] at hx;cases hx
  |some cs=>
   simp only[al,σ2 e];rw[bK (hfr.heap _ (hpre.blt hb) (no1 (src0 e).1 hb))]
 have newB:∀{q:Pl} {B:Nat},G'.cl q=some B->dV Gc (cut is cur is) B\/w.heap.size<=B:=λ{q B} hq=>(h'.cllt q B hq).2
 have far3:∀{b j B:Nat} {q:Pl},bg is N b=none->G.cl (.bx b j)=some B->G'.cl q=some B->False:=λ{b j B q} e h1 h2=>by
  rcases newB h2 with h3|h3
  .exact no3 (src0 e).1 h1 h3
  .have:=(hpre.cllt _ B h1).1;omega
 have hat0:(⟨[(0,r)],bs',(cut is cur is).length⟩:St).at (.sl 0)=some r:=rfl
 have clOf:∀{p:Pl} {B:Nat},G2.cl p=some B->(∃q,G'.cl q=some B/\((p=.sl 0/\q=.sl 0)\/∃b j k,p=.bx b j/\bg is N b=some k/\q=.bx k j))\/∃b j,p=.bx b j/\bg is N b=none/\G.cl (.bx b j)=some B:=λ{p B} hp=>by
  cases p with
  |sl t=>
   have:=clS hp;subst this;rw[cl0] at hp
   exact .inl ⟨.sl 0,hp,.inl ⟨rfl,rfl⟩⟩
  |bx b j=>
   cases e:bg is N b with
   |some k=>rw[cl1 j e] at hp;exact .inl ⟨_,hp,.inr ⟨b,j,k,rfl,e,rfl⟩⟩
   |none=>rw[cl2 j e] at hp;exact .inr ⟨b,j,rfl,e,hp⟩
 refine⟨v,r.rn (pie is N),back is cur bs',G2,rfl,⟨r,bs',hq,by rw[hN],rfl⟩,?_⟩
 refine⟨?_,by rw[hM2];exact h'.ok,rfl,λp x hp=>?_,λb j x hp=>?_,λb cs hb=>?_,λb cs hb=>?_,λb b' cs cs' hb hb' e=>?_,λp z l hp=>?_,λp q B hp hq=>?_,λp B hB b cs hb=>?_,λp B hB=>?_,hN.symm▸rfl,by show cur.length<=_;rw[hblen,hN];omega,λb hb=>hσN b (by rw[hN];exact hb),?_⟩
 .rw [hM2];exact⟨hfr.os,hfr.tape,hfr.output,hfr.size,hfr.le,λB hB hn=>hfr.heap B hB (λe=>hn (toG B e)),λB hB hn=>hfr.mem B hB (λe=>hn (toG B e))⟩
 .rw [<-hN] at hp;rcases hat2 hp with ⟨rfl,rfl⟩|⟨b,j,k,y,rfl,e,hy,rfl,ha⟩|⟨b,j,rfl,e,hy⟩
  .show RV G2.M G2.σ _ _ v;rw[mQ];exact toN (h'.val _ _ hat0) (by rw[k7];exact hrat)
  .show RV G2.M G2.σ _ _ (al G2.σ ⟨#[v],[]⟩ w' (.bx b j));rw[mQ,va1 j e];exact toN (h'.val _ _ hy) (by rw[k7];exact ha)
  .show RV G2.M G2.σ _ _ (al G2.σ ⟨#[v],[]⟩ w' (.bx b j));rw[va2 j e hy];exact keep (hpre.val _ _ hy)
 .rw [<-hN] at hp;rcases hat2 hp with ⟨e,_⟩|⟨b',j',k,y,e0,e,hy,rfl,ha⟩|⟨b',j',e0,e,hy⟩
  .cases e
  .cases e0;rw[va1 j e];exact h'.one _ _ _ hy
  .cases e0;rw[va2 j e hy];exact hpre.one _ _ _ hy
 .rcases bcells hb with ⟨k,ds,e,hk,rfl,_⟩|⟨e,hk⟩
  .rw [σ1 e,ZF];exact h'.box k ds hk
  .rw [σ2 e];obtain⟨vs,T,q1,q2⟩:=hpre.box b cs hk;exact⟨vs,T,(hfr.heap _ (hpre.blt hk) (no1 (src0 e).1 hk)).trans q1,q2⟩
 .rcases bcells hb with ⟨k,ds,e,hk,rfl,_⟩|⟨e,hk⟩
  .rw [σ1 e,hM2];obtain⟨q1,q2⟩:=h'.bmem k ds hk;refine⟨q1,?_⟩;rcases q2 with q2|q2
   .exact .inl (toG _ q2)
   .exact .inr q2
  .rw [σ2 e,hM2];exact⟨λo=>(hfr.mem _ (hpre.blt hk) (no1 (src0 e).1 hk) o).trans ((hpre.bmem b cs hk).1 o),.inl (.inl ⟨b,cs,hk,rfl⟩)⟩
 .have mixed:∀{b b':Nat} {k:Nat} {ds cs':List AV},bg is N b=some k->aa bs' k=some ds->bg is N b'=none->aa cur b'=some cs'->G2.σ b=G2.σ b'->False:=λ{b b' k ds cs'} e hk e' hk' he=>by
   rw[σ1 e,σ2 e'] at he;rcases(h'.bmem k ds hk).2 with q|q
   .rw [he] at q;exact no1 (src0 e').1 hk' q
   .have q:w.heap.size<=G'.σ k:=q;have:=hpre.blt hk';omega
  rcases bcells hb with ⟨k,ds,e1,hk,_,_⟩|⟨e1,hk⟩<;>rcases bcells hb' with ⟨k',ds',e1',hk',_,_⟩|⟨e1',hk'⟩
  .rw [σ1 e1,σ1 e1'] at e;have:=h'.inj k k' ds ds' hk hk' e;subst this;exact srcI e1 e1'
  .exact (mixed e1 hk e1' hk' e).elim
  .exact (mixed e1' hk' e1 hk e.symm).elim
  .rw [σ2 e1,σ2 e1'] at e;exact hpre.inj b b' cs cs' hk hk' e
 .rw [<-hN] at hp;rcases hat2 hp with ⟨rfl,hr⟩|⟨b,j,k,y,rfl,e,hy,hyr,ha⟩|⟨b,j,rfl,e,hy⟩
  .have hr':=tw hr.symm;obtain⟨ad,kk,q1,q2,q3⟩:=h'.own _ _ _ (hat0.trans (by rw[hr']))
   refine⟨ad,kk,q1,q2,?_⟩;rcases q3 with q3|⟨B,hB,q4,q5⟩
   .exact .inl q3
   .refine .inr ⟨B,by rw[cl0];exact hB,q4,q5.lt,q5.cells,by rw[hM2];exact q5.free,?_⟩
    rcases q5.mine with q|q
    .exact .inl (toG _ q)
    .exact .inr q
  .have hy':=tw hyr.symm;subst hy';obtain⟨ad,kk,q1,q2,q3⟩:=h'.own _ _ _ hy;refine⟨ad,kk,by rw[va1 j e];exact q1,q2,?_⟩
   rcases q3 with q3|⟨B,hB,q4,q5⟩
   .exact .inl q3
   .refine .inr ⟨B,by rw[cl1 j e];exact hB,q4,q5.lt,q5.cells,by rw[hM2];exact q5.free,?_⟩
    rcases q5.mine with q|q
    .exact .inl (toG _ q)
    .exact .inr q
  .obtain ⟨ad,kk,q1,q2,q3⟩:=hpre.own _ _ _ hy;refine⟨ad,kk,by rw[va2 j e hy];exact q1,q2,?_⟩
   rcases q3 with q3|⟨B,hB,q4,q5⟩
   .exact .inl q3
   .have hlt:=(hpre.cllt _ B hB).1;have hn:=no3 (src0 e).1 hB;obtain⟨vs,T,q6,q7⟩:=q5.cells;exact .inr ⟨B,by rw[cl2 j e];exact hB,q4,q5.lt,⟨vs,T,(hfr.heap B hlt hn).trans q6,q7⟩,λo ho=>by rw[hM2];exact(hfr.mem B hlt hn o).trans (q5.free o ho),.inl (.inr (.inl ⟨b,j,hB⟩))⟩
 .rcases clOf hp with ⟨q1,hq1,h1⟩|⟨b,j,rfl,e,h1⟩<;>rcases clOf hq with ⟨q2,hq2,h2⟩|⟨b',j',rfl,e',h2⟩
  .have:=h'.clinj q1 q2 B hq1 hq2;subst this;rcases h1 with ⟨rfl,rfl⟩|⟨b,j,k,rfl,e,rfl⟩<;>rcases h2 with ⟨rfl,e2⟩|⟨b',j',k',rfl,e',e2⟩
   .rfl
   .cases e2
   .cases e2
   .cases e2;have:=srcI e e';subst this;rfl
  .exact (far3 e' h2 hq1).elim
  .exact (far3 e h1 hq2).elim
  .exact hpre.clinj _ _ B h1 h2
 .intro he;rcases clOf hB with ⟨q1,hq1,_⟩|⟨b',j',rfl,e',h1⟩<;>rcases bcells hb with ⟨k,ds,e1,hk,_,_⟩|⟨e1,hk⟩
  .rw [σ1 e1] at he;exact h'.clbox q1 B hq1 k ds hk he
  .rw [σ2 e1] at he;rcases newB hq1 with q|q
   .rw [<-he] at q;exact no1 (src0 e1).1 hk q
   .have:=hpre.blt hk;have he':G.σ b=B:=he;have this':G.σ b<w.heap.size:=this;omega
  .rw [σ1 e1] at he;rcases(h'.bmem k ds hk).2 with q|q
   .rw [he] at q;exact no3 (src0 e').1 h1 q
   .have q:w.heap.size<=G'.σ k:=q;have:=(hpre.cllt _ B h1).1;have he':G'.σ k=B:=he;omega
  .rw [σ2 e1] at he;exact hpre.clbox _ B h1 b cs hk he
 .rcases clOf hB with ⟨q1,hq1,_⟩|⟨b',j',rfl,e',h1⟩
  .obtain ⟨q2,q3⟩:=h'.cllt q1 B hq1;refine⟨q2,?_⟩;rcases q3 with q|q
   .exact .inl (toG _ q)
   .exact .inr q
  .exact ⟨YT (hpre.cllt _ B h1).1 hwsz,.inl (.inr (.inl ⟨b',j',h1⟩))⟩
 .refine ⟨λB o hs=>?_,λb x hb=>?_,λb b' x x' hb hb' e=>?_,[],rfl,.nil⟩
  .rcases hs with ⟨b,x,hb,e,ho⟩|⟨hmem,_⟩
   .rcases bloops hb with ⟨k,e1,hk,_,_⟩|⟨e1,hk⟩
    .rw [σ1 e1] at e;obtain⟨q1,q2,q3⟩:=h'.sp.ob B o (.inl ⟨k,x,hk,e,ho⟩);refine⟨q1,λp hp=>?_,?_⟩
     .rcases clOf hp with ⟨q,hq,_⟩|⟨b',j',_,e',h1⟩
      .exact q2 q hq
      .rcases q3 with q|q
       .exact no3 (src0 e').1 h1 q
       .have q:w.heap.size<=B:=q;have:=(hpre.cllt _ B h1).1;omega
     .rcases q3 with q|q
      .exact .inl (toG _ q)
      .exact .inr q
    .rw [σ2 e1] at e;obtain⟨q1,q2,_⟩:=hpre.sp.ob B o (.inl ⟨b,x,hk,e,ho⟩);have hlt:=(Zh.1 q1).1;have hn:=no2 (src0 e1).1 hk;rw[e] at hn;refine⟨(hfr.heap B hlt hn).trans q1,λp hp=>?_,.inl (.inr (.inr ⟨b,x,hk,e⟩))⟩;rcases clOf hp with ⟨q,hq,_⟩|⟨b',j',_,e',h1⟩
     .rcases newB hq with q|q
      .exact hn q
      .omega
     .exact q2 _ h1
   .cases hmem
  .rcases bloops hb with ⟨k,e1,hk,h0,hM⟩|⟨e1,hk⟩
   .exact ⟨hM _,by omega,λc hc=>by omega⟩
   .obtain ⟨q1,q2,q3⟩:=hpre.sp.base b x hk;refine⟨by rw[hM2];exact Hp.le_trans q1 hfr.le,q2,λc hc=>?_⟩
    have:=(src0 e1).2;rw[hσN c (by omega)]
    exact q3 c hc
  .have mixed:∀{b b':Nat} {k:Nat} {x x':LB},bg is N b=some k->ag bs' k=some x->bg is N b'=none->ag cur b'=some x'->G2.σ b=G2.σ b'->False:=λ{b b' k x x'} e hk e' hk' he=>by
    rw[σ1 e,σ2 e'] at he;have q0:=(Zh.1 (hpre.sp.ob _ _ (.inl ⟨b',x',hk',rfl,rfl⟩)).1).1;rcases(h'.sp.ob _ _ (.inl ⟨k,x,hk,rfl,rfl⟩)).2.2 with q|q
    .rw [he] at q;exact no2 (src0 e').1 hk' q
    .have q:w.heap.size<=G'.σ k:=q;omega
   rcases bloops hb with ⟨k,e1,hk,_,_⟩|⟨e1,hk⟩<;>rcases bloops hb' with ⟨k',e1',hk',_,_⟩|⟨e1',hk'⟩
   .rw [σ1 e1,σ1 e1'] at e;have:=h'.sp.inj k k' x x' hk hk' e;subst this;exact srcI e1 e1'
   .exact (mixed e1 hk e1' hk' e).elim
   .exact (mixed e1' hk' e1 hk e.symm).elim
   .rw [σ2 e1,σ2 e1'] at e;exact hpre.sp.inj b b' x x' hk hk' e
end Go.AM
