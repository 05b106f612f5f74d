/-
  Texts of this aQ joined (wip/gen/bundle.py),those declarations only that are needed:AmF AmG AmH AmJ AmK. By an AI agent.
-/
import Derived.Test.YtahnpgfkkngimaaGreatBan
set_option linter.unusedSimpArgs false
set_option linter.unusedVariables false
namespace Go.AM
open Go.CK Go.RowKit
def lits:List Nat:=[0,1,2,3,4,5,6,7,8,9,10,11,12,13,14,15,16,17,18,19,20,21,22,23,24,25,26,27,28,29,30,31,32,33,34,35,36,37,38,39,40]
def Am(n:Nat)(K:Nat->Prop):Prop:=
 match lits[n]? with
 |some m=>K m
 |none=>K n
theorem DC(n:Nat)(K:Nat->Prop):Am n K=K n:=by
 unfold Am;split
 .rename_i m h
  have:m=n:=by
   have hlt:n<lits.length:=by
    rcases Zs n lits.length with h1|h1
    .exact h1
    .rw [ZR h1] at h;cases h
   have hall:∀k,(hk:k<lits.length)->lits[k]=k:=by decide
   rw[ZA hlt] at h;cases h;exact hall n hlt
  rw[this]
 .rfl
def f1(x:AV)(K:AV->Prop):Prop:=
 match x with
 |.top=>K .top
 |.bool b=>K (.bool b)
 |.int k n=>K (.int k n)
 |.str s=>K (.str s)
 |.sl o l=>match o with
  |.no=>K (.sl .no l)
  |.full=>K (.sl .full l)
  |.own z=>K (.sl (.own z) l)
 |.agg cs=>K (.agg cs)
 |.tup vs=>K (.tup vs)
 |.ptr b off=>Am b λb=>Am off λoff=>K (.ptr b off)
 |.sP=>K .sP
 |.ept cs=>K (.ept cs)
 |.fn f xs ys=>K (.fn f xs ys)
 |.yl b=>K (.yl b)
 |.bsl b m k=>Am b λb=>K (.bsl b m k)
 |.elp b i z off=>Am b λb=>K (.elp b i z off)
 |.mpt b=>Am b λb=>K (.mpt b)
 |.nfn=>K .nfn
 |.nmp=>K .nmp
 |.tY=>K .tY
theorem JF(x:AV)(K:AV->Prop):f1 x K=K x:=by
 cases x<;>first|(simp only[f1,DC];done)|skip
 rename_i o l;cases o<;>rfl
def fs(l:List AV)(K:List AV->Prop):Prop:=
 match l with
 |[]=>K []
 |x::xs=>f1 x λx=>fs xs λxs=>K (x::xs)
theorem Hk:∀(l:List AV) (K:List AV->Prop),fs l K=K l
 |[],_=>rfl
 |x::xs,K=>by rw[fs,JF,Hk xs]
def fv(x:AV)(K:AV->Prop):Prop:=
 match x with
 |.agg cs=>fs cs λcs=>K (.agg cs)
 |.tup cs=>fs cs λcs=>K (.tup cs)
 |.ept cs=>fs cs λcs=>K (.ept cs)
 |.fn f xs ys=>fs xs λxs=>fs ys λys=>K (.fn f xs ys)
 |x=>f1 x K
theorem xK(x:AV)(K:AV->Prop):fv x K=K x:=by
 cases x<;>simp only[fv,Hk,JF]
def fvs(l:List AV)(K:List AV->Prop):Prop:=
 match l with
 |[]=>K []
 |x::xs=>fv x λx=>fvs xs λxs=>K (x::xs)
theorem Hh:∀(l:List AV) (K:List AV->Prop),fvs l K=K l
 |[],_=>rfl
 |x::xs,K=>by rw[fvs,xK,Hh xs]
def fvq(x:AV)(K:AV->Prop):Prop:=
 match x with
 |.ptr b off=>K (.ptr b off)
 |.bsl b m k=>K (.bsl b m k)
 |.elp b i z off=>K (.elp b i z off)
 |.mpt b=>K (.mpt b)
 |.fn f xs ys=>K (.fn f xs ys)
 |x=>fv x K
theorem Hi(x:AV)(K:AV->Prop):fvq x K=K x:=by
 cases x<;>simp only[fvq,xK]
def E3(l:List AV)(K:List AV->Prop):Prop:=
 match l with
 |[]=>K []
 |x::xs=>fvq x λx=>E3 xs λxs=>K (x::xs)
theorem qm:∀(l:List AV) (K:List AV->Prop),E3 l K=K l
 |[],_=>rfl
 |x::xs,K=>by rw[E3,Hi,qm xs]
def fvn(fb:Bool)(x:AV)(K:AV->Prop):Prop:=
 match fb with
 |true=>fv x K
 |false=>fvq x K
theorem Kw(fb:Bool)(x:AV)(K:AV->Prop):fvn fb x K=K x:=by
 cases fb
 .simp only[fvn,Hi]
 .simp only[fvn,xK]
def E5(fb:Bool)(e:List (Nat×AV))(K:List (Nat×AV)->Prop):Prop:=
 match e with
 |[]=>K []
 |(t,x)::r=>fvn fb x λx=>E5 fb r λr=>K ((t,x)::r)
theorem y5(fb:Bool):∀(e:List (Nat×AV)) (K:List (Nat×AV)->Prop),E5 fb e K=K e
 |[],_=>rfl
 |(t,x)::r,K=>by rw[E5,Kw,y5 fb r]
def fBs(e:List Box)(K:List Box->Prop):Prop:=
 match e with
 |[]=>K []
 |.cells cs::r=>fs cs λcs=>fBs r λr=>K (.cells cs::r)
 |.dead::r=>fBs r λr=>K (.dead::r)
 |.loop x::r=>fBs r λr=>K (.loop x::r)
 |.row x::r=>fBs r λr=>K (.row x::r)
 |.mp x::r=>fBs r λr=>K (.mp x::r)
 |.mq x c::r=>fBs r λr=>K (.mq x c::r)
theorem nx:∀(e:List Box) (K:List Box->Prop),fBs e K=K e
 |[],_=>rfl
 |.cells cs::r,K=>by rw[fBs,Hk,nx r]
 |.dead::r,K=>by rw[fBs,nx r]
 |.loop x::r,K=>by rw[fBs,nx r]
 |.row x::r,K=>by rw[fBs,nx r]
 |.mp x::r,K=>by rw[fBs,nx r]
 |.mq x c::r,K=>by rw[fBs,nx r]
def St.fo(fb:Bool)(s:St)(K:St->Prop):Prop:=match s with
 |⟨e,bs,lo⟩=>E5 fb e λe=>match fb with
  |true=>fBs bs λbs=>Am lo λlo=>K ⟨e,bs,lo⟩
  |false=>K ⟨e,bs,lo⟩
theorem St.c9(fb:Bool)(s:St)(K:St->Prop):s.fo fb K=K s:=by
 cases fb<;>simp only[St.fo,y5,nx,DC]
structure ab(P:Program)(f:FuncId)(vals raw:List AV)(bs:List Box)(K:AV->List Box->Prop):Prop where
 sem:∃Q,(Sem P f vals bs Q\/Sem P f raw bs Q)/\∀r bs',Q r bs'->K r bs'
theorem ab.raw{P:Program}{f:FuncId}{vals raw:List AV}{bs:List Box}{K:AV->List Box->Prop}{Q:AV->List Box->Prop}(h:Sem P f raw bs Q)(hK:∀r bs',Q r bs'->K r bs'):ab P f vals raw bs K:=⟨Q,.inr h,hK⟩
theorem ab.fn{P:Program}{f:FuncId}{vals raw:List AV}{bs:List Box}{K:AV->List Box->Prop}{r:AV}(h:Fun P f vals r)(hK:K r bs):ab P f vals raw bs K:=⟨_,.inl (h bs),λr' bs' ⟨e1,e2⟩=>by subst e1 e2;exact hK⟩
structure aM(P:Program)(f:FuncId)(vals:List AV)(K:AV->Prop):Prop where
 sem:∃r,Fun P f vals r/\K r
theorem aM.fn{P:Program}{f:FuncId}{vals:List AV}{K:AV->Prop}{r:AV}(h:Fun P f vals r)(hK:K r):aM P f vals K:=⟨r,h,hK⟩
structure zp(P:Program)(b:Nat)(vals:List AV)(bs:List Box)(K:AV->List Box->Prop):Prop where
 sem:∃Q,mH P b vals bs Q/\∀r bs',Q r bs'->K r bs'
theorem zp.of{P:Program}{b:Nat}{vals:List AV}{bs:List Box}{K:AV->List Box->Prop}{Q:AV->List Box->Prop}(h:mH P b vals bs Q)(hK:∀r bs',Q r bs'->K r bs'):zp P b vals bs K:=⟨Q,h,hK⟩
def St.pt(s:St)(d:Option Nat)(x:AV):St:=match s with
 |⟨e,bs,lo⟩=>match d with
  |some k=>⟨aN e k x,bs,lo⟩
  |none=>⟨e,bs,lo⟩
theorem St.pU(s:St)(d:Option Nat)(x:AV):s.pt d x=s.put d x:=by cases s;cases d<;>rfl
def St.kp(s:St)(ks:List Nat):St:=match s with
 |⟨e,bs,lo⟩=>⟨eC (λk=>mem k ks) e,bs,lo⟩
def St.wb(s:St)(bs':List Box):St:=match s with
 |⟨e,_,lo⟩=>⟨e,bs',lo⟩
theorem St.FN(s:St)(bs':List Box):s.wb bs'=⟨s.env,bs',s.lo⟩:=by cases s;rfl
def fsq(l:List AV)(K:List AV->Prop):Prop:=E3 l K
theorem Hj(l:List AV)(K:List AV->Prop):fsq l K=K l:=qm l K
def vh(P:Program)(dr:Bool)(s:St)(d:Option Nat)(f:AV)(args:List AV)(K:St->Prop):Prop:=
 match f with
 |.fn (.func f) xs ys=>E3 ((xs++args++ys).map AV.norm) λvals=>match dr with
  |true=>aM P f vals λr=>K (s.pt d r)
  |false=>match s with
   |⟨e,bs,lo⟩=>ab P f vals (xs++args++ys) bs λr bs'=>K (St.pt ⟨e,bs',lo⟩ d r)
 |.yl b=>match dr with
  |true=>False
  |false=>E3 (args.map AV.norm) λvals=>match s with
   |⟨e,bs,lo⟩=>zp P b vals bs λr bs'=>K (St.pt ⟨e,bs',lo⟩ d r)
 |_=>False
theorem vg{P:Program}{dr:Bool}{s:St}{d:Option Nat}{f:AV}{args:List AV}{K:St->Prop}:vh P dr s d f args K=(match dr with
  |true=>eU P f args λr=>K (s.put d r)
  |false=>jc P s d f args K):=by
 cases dr with
 |true=>
  cases f<;>try rfl
  rename_i f xs ys;cases f<;>try rfl
  simp only[vh,eU,qm,St.pU]
  exact propext ⟨λh=>h.sem,λh=>⟨h⟩⟩
 |false=>
  cases f<;>try rfl
  .rename_i f xs ys;cases f<;>try rfl
   simp only[vh,jc,qm,St.pU,St.FN];exact propext ⟨λh=>h.sem,λh=>⟨h⟩⟩
  .simp only[vh,jc,qm,St.pU,St.FN];exact propext ⟨λh=>h.sem,λh=>⟨h⟩⟩
structure LoopN(body:St->(AX->St->Prop)->Prop)(s:St)(Q:AX->St->Prop):Prop where
 out:∃(I:Nat->St->Prop) (m:Nat) (s0:St),aB s s0/\I m s0/\∀m s,I m s->body s (mc (λs'=>∃m' s'',m'<m/\aB s' s''/\I m' s'') Q)
structure Lh(P:Program)(g:Opd)(ps:List Nat)(a b:St->(AX->St->Prop)->Prop)(s:St)(Q:AX->St->Prop):Prop where
 out:∃s0,aB s s0/\match s0.ev g with
  |.fn (.func gf) [] lb=>dI P gf=true/\∀x:LB,(∀y bs R,ag bs s0.bs.length=some x->y.length=ps.length->Cb a b x (eF s0.env) s0.bs.length ps y bs R->mH P s0.bs.length y bs R)->
    ∃QQ,Sem P gf ((.yl s0.bs.length::lb).map AV.norm) (s0.bs++[.loop x]) QQ/\∀r bs',QQ r bs'->Da x s0 bs' Q
  |_=>False
structure Jm(s:St)(rs:List cm)(Q:AV->List Box->Prop):Prop where
 out:∃s',aB s s'/\oU s' rs Q
structure ah(s t:St):Prop where
 out:aB s t
end Go.AM
namespace Go.AM
open Go.CK Go.RowKit
structure KO(s:St)(e:AX)(J:AX->List Box->Prop):Prop where
 out:∃s3 own,aB s s3/\s3.bs=own++[.dead]/\J e own
theorem ah.C2{s t:St}(b off z:Nat){l:List AV}(h0:s.at (.bx b off)=some (.sl .full l))(hz:∀y∈l,y.cells.length=z)(h:ah (s.upd (.bx b off) (.sl (.own z) l)) t):ah s t:=
 ⟨aB.trans (λ_ G _ _ hs=>⟨G,hs.aQ h0 hz⟩) h.out⟩
theorem j4{own:List Box}{n:Nat}(h:own.length=n)(x y:Box):(own++[x]).set n y=own++[y]:=by
 subst h;simp
end Go.AM
namespace Go.AM
open Go.CK Go.RowKit
def pC(b:Nat)(cs:List AV):AV->AV
 |.ptr b' off=>match Nat.beq b' b with
  |true=>.ept (cs.drop off)
  |false=>.ptr b' off
 |x=>x
def vS(b:Nat)(cs:List AV):AV->AV
 |.fn f xs ys=>.fn f (xs.map (pC b cs)) (ys.map (pC b cs))
 |x=>pC b cs x
theorem RV.pC{M:Hp}{σ:Nat->Nat}{n b:Nat}{cs:List AV}(hc:Cells M (σ b) 0 cs){x:AV}{v:Value}(h:RV M σ n x v):RV M σ n (pC b cs x) v:=by
 unfold AM.pC;split
 .rename_i b' off;obtain⟨rfl,_⟩:=h.gg;split
  .rename_i hb;have:=ZO hb;subst this;refine .ept _ _ _ ?_;have:=hc.drop off
   rwa [YG] at this
  .exact h
 .exact h
theorem RV.vS{M:Hp}{σ:Nat->Nat}{n b:Nat}{cs:List AV}(hc:Cells M (σ b) 0 cs){x:AV}{v:Value}(h:RV M σ n x v):RV M σ n (vS b cs x) v:=by
 unfold AM.vS;split
 .rename_i f xs ys;obtain⟨us,vs,rfl,h1,h2,h3,h4⟩:=h.pf;refine .fn f _ _ us vs (by simp[h1]) (by simp[h2]) (λj hj v hv=>?_) (λj hj v hv=>?_)
  .simp only[ZF] at hj;rw[YA];exact(h3 j hj v hv).pC hc
  .simp only[ZF] at hj;rw[YA];exact(h4 j hj v hv).pC hc
 .exact h.pC hc
section
variable{E:Entry}{G:Gh}{s:St}{a:Act}{w:World}
theorem RS.dead(h:RS E G s a w){b:Nat}{cs:List AV}(hb:aa s.bs b=some cs)(hf:∀x∈cs,x.aU=true):
  ∃G':Gh,RS E G' ⟨s.env,s.bs.set b .dead,s.lo⟩ a w/\G'.σ=G.σ/\Cells G'.M (G.σ b) 0 cs:=by
 obtain⟨vs,T,h1,h2⟩:=h.box b cs hb;obtain⟨hM,hmine⟩:=h.bmem b cs hb;have hle:G.M.le (bc G.M (G.σ b) 0 vs.toList):=db λo _=>hM o
 have hat:∀p x,(⟨s.env,s.bs.set b .dead,s.lo⟩:St).at p=some x->s.at p=some x/\∀j,p≠.bx b j:=λp x hp=>by
  cases p with
  |sl t=>exact⟨hp,λj e=>by cases e⟩
  |bx c j=>
   simp only[St.at,bL] at hp|-
   by_cases e:c=b
   .rw [if_pos e] at hp;cases hp
   .rw [if_neg e] at hp;exact⟨hp,λj' e'=>by cases e';exact e rfl⟩
 have hbc:∀c ds,aa (s.bs.set b .dead) c=some ds->aa s.bs c=some ds/\G.σ c≠G.σ b:=λc ds hc=>by
  rw[bL] at hc
  by_cases e:c=b
  .rw [if_pos e] at hc;cases hc
  .rw [if_neg e] at hc;exact⟨hc,λe2=>e (h.inj c b ds cs hc hb e2)⟩
 have hlen:(s.bs.set b .dead).length=s.bs.length:=by simp
 refine⟨{G with M:=bc G.M (G.σ b) 0 vs.toList},⟨⟨h.fr.os,h.fr.tape,h.fr.output,h.fr.size,Hp.le_trans h.fr.le hle,h.fr.heap,λB hB hn o=>?_⟩,λc o v hv=>?_,h.nt,λp x hp=>?_,λc j x hp=>h.one c j x (hat _ x hp).1,λc ds hc=>h.box c ds (hbc c ds hc).1,λc ds hc=>?_,λc c' ds ds' hc hc' e=>h.inj c c' ds ds' (hbc c ds hc).1 (hbc c' ds' hc').1 e,λp z l hp=>?_,h.clinj,λp B hB c ds hc=>h.clbox p B hB c ds (hbc c ds hc).1,h.cllt,h.lo,by rw[hlen];exact h.len,h.sig,?_⟩,rfl,λj hj=>?_⟩
 .have hne:B≠G.σ b:=λe=>by
   subst e;rcases hmine with h3|h3
   .exact hn h3
   .omega
  exact(da hne o).trans (h.fr.mem B hB hn o)
 .rcases l9 hv with ⟨rfl,j,rfl,hj⟩|hv
  .simp only[Hp.of,World.cell?,h1];simpa using hj
  .exact h.ok c o v hv
 .rw [hlen];exact(h.val p x (hat p x hp).1).mono hle (ZG _) (λ_ _=>rfl)
 .obtain ⟨h3,h4⟩:=hbc c ds hc;obtain⟨h5,h6⟩:=h.bmem c ds h3;exact⟨λo=>(da h4 o).trans (h5 o),h6⟩
 .obtain ⟨ad,k,h3,h4,h5⟩:=h.own p z l (hat p _ hp).1;refine⟨ad,k,h3,h4,?_⟩;rcases h5 with h5|⟨B,hB,h6,h7⟩
  .exact .inl h5
  .exact .inr ⟨B,hB,h6,h7.lt,h7.cells,λo ho=>(da (λe=>h.clbox p B hB b cs hb e.symm) o).trans (h7.free o ho),h7.mine⟩
 .refine h.sp.step hle (λ_ _=>rfl) (λc x hc=>?_) (λ_ _ k _=>k) (λ_ _ _ _ p k=>⟨p,k⟩) (λ_ k=>k);rw[cE] at hc;split at hc
  .cases hc
  .exact hc
 .obtain ⟨u,h3,h4,h5⟩:=h.ze hb j hj;have hfl:=hf _ (Zc hj)
  have hd:(cs[j]).aF=cs[j]:=by
   generalize cs[j]=y at*;cases y<;>try rfl
   rename_i o l;cases o<;>first|rfl|cases hfl
  rw[hd] at h5
  have hju:vs.toList[j]? =some u:=by
   simp only[World.cell?,h1] at h3;simpa using h3
  exact⟨u,by have:=fD (M:=G.M) (B:=G.σ b) (off:=0) hju;exact this,h4,(h5.aU hfl).mono hle⟩
theorem aB.freeze(s:St)(t b:Nat){cs:List AV}{x:AV}(ht:ak s.env t=some x)(hb:aa s.bs b=some cs)(hf:cs.all AV.aU=true)(hx:x.aF=x):aB s ⟨aN s.env t (vS b cs x),s.bs.set b .dead,s.lo⟩:=λE G a w hs=>by
 obtain⟨G',h1,h2,h3⟩:=hs.dead hb (by simpa using hf)
 have hat:(⟨s.env,s.bs.set b .dead,s.lo⟩:St).at (.sl t)=some x:=ht;have hv:=h1.val _ _ hat;rw[hx] at hv;rw[<-h2] at h3;exact⟨G',h1.upd (q:=.sl t) hat (hv.vS h3)⟩
end
theorem Jm.freeze{s:St}{t:Nat}(b:Nat){cs:List AV}{x:AV}{Q:AV->List Box->Prop}(h0:ak s.env t=some x)(hb:aa s.bs b=some cs)(hf:cs.all AV.aU=true)(hx:x.aF=x)(h:fv (vS b cs x) λx=>Q x (s.bs.set b .dead)):Jm s [.slot t] Q:=
 ⟨_,aB.freeze s t b h0 hb hf hx,by
  have:(⟨aN s.env t (vS b cs x),s.bs.set b .dead,s.lo⟩:St).get t=vS b cs x:=by simp[St.get,eZ]
  simp only[oU];rw[xK] at h;rw[this];exact h⟩
end Go.AM
namespace Go.AM
open Go.CK Go.RowKit
def clF(n:Nat)(cl:Pl->Option Nat):Pl->Option Nat
 |.sl _=>none
 |.bx b j=>if b<n then cl (.bx b j) else none
theorem eG{n:Nat}{cl:Pl->Option Nat}{p:Pl}{B:Nat}(h:clF n cl p=some B):∃b j,p=.bx b j/\b<n/\cl (.bx b j)=some B:=by
 cases p with
 |sl t=>cases h
 |bx b j=>
  simp only[clF] at h;split at h
  .exact ⟨b,j,rfl,by assumption,h⟩
  .cases h
theorem gn{bs cs:List Box}{b:Nat}:aa (bs++cs) b=if b<bs.length then aa bs b else aa cs (b-bs.length):=by
 simp only[aa]
 by_cases h:b<bs.length
 .rw [ZK h,if_pos h]
 .rw [ZZ (by omega),if_neg h]
theorem jd{bs cs:List Box}{b:Nat}:ag (bs++cs) b=if b<bs.length then ag bs b else ag cs (b-bs.length):=by
 simp only[ag]
 by_cases h:b<bs.length
 .rw [ZK h,if_pos h]
 .rw [ZZ (by omega),if_neg h]
theorem ba{bs:List Box}(cs:List Box){b:Nat}{ds:List AV}(h:aa bs b=some ds):aa (bs++cs) b=some ds:=by
 rw[gn,if_pos (aA h)];exact h
theorem bJ{bs:List Box}(cs:List Box){b:Nat}{x:LB}(h:ag bs b=some x):ag (bs++cs) b=some x:=by
 rw[jd,if_pos (aO h)];exact h
section
variable{E:Entry}{G:Gh}{a:Act}{w:World}
theorem RS.hide{bs cs:List Box}{lo:Nat}(h:RS E G ⟨[],bs++cs,lo⟩ a w)(hlt:aj bs.length bs=true)(a':Act)(hds:a'.defers=[]):
  RS (cC ⟨G.M,G.σ,clF bs.length G.cl⟩ bs w a'.tmps.size) ⟨G.M,G.σ,clF bs.length G.cl⟩ ⟨[],bs,bs.length⟩ a' w:=by
 have hat:∀p x,(⟨[],bs,bs.length⟩:St).at p=some x->∃b j ds,p=.bx b j/\b<bs.length/\aa bs b=some ds/\ds[j]? =some x/\(⟨[],bs++cs,lo⟩:St).at (.bx b j)=some x:=λp x hp=>by
  cases p with
  |sl t=>simp[St.at,ak] at hp
  |bx b j=>
   simp only[St.at] at hp
   cases hb:aa bs b with
   |none=>rw[hb] at hp;cases hp
   |some ds=>
    rw[hb] at hp;refine⟨b,j,ds,rfl,aA hb,hb,hp,?_⟩;simp only[St.at,ba cs hb];exact hp
 refine⟨Fr.refl _ _ _,h.ok,rfl,λp x hp=>?_,λb j x hp=>?_,λb ds hb=>h.box b ds (ba cs hb),λb ds hb=>⟨(h.bmem b ds (ba cs hb)).1,.inl (.inl ⟨b,ds,hb,rfl⟩)⟩,λb b' ds ds' hb hb' e=>h.inj b b' ds ds' (ba cs hb) (ba cs hb') e,λp z l hp=>?_,λp q B hp hq=>?_,λp B hB b ds hb=>?_,λp B hB=>?_,rfl,ZG _,λ_ _=>rfl,?_⟩
 .obtain ⟨b,j,ds,rfl,_,hb,hj,hx⟩:=hat p x hp;exact(h.val _ _ hx).lt (by rw[uj];exact cw hlt hb hj)
 .obtain ⟨b',j',ds,e,_,_,_,hx⟩:=hat _ x hp;cases e;exact h.one _ _ _ hx
 .obtain ⟨b,j,ds,rfl,hbl,hb,hj,hx⟩:=hat p _ hp;obtain⟨ad,k,h1,h2,h3⟩:=h.own _ _ _ hx;refine⟨ad,k,h1,h2,?_⟩;rcases h3 with h3|⟨B,hB,h4,h5⟩
  .exact .inl h3
  .have hB':clF bs.length G.cl (.bx b j)=some B:=by simp only[clF,if_pos hbl];exact hB
   exact .inr ⟨B,hB',h4,h5.lt,h5.cells,h5.free,.inl (.inr (.inl ⟨b,j,hB'⟩))⟩
 .obtain ⟨b,j,rfl,_,h1⟩:=eG hp;obtain⟨b',j',rfl,_,h2⟩:=eG hq;exact h.clinj _ _ B h1 h2
 .obtain ⟨b',j',rfl,_,h1⟩:=eG hB;exact h.clbox _ B h1 b ds (ba cs hb)
 .have hB0:=hB;obtain⟨b',j',rfl,_,h1⟩:=eG hB;exact⟨(h.cllt _ B h1).1,.inl (.inr (.inl ⟨b',j',hB0⟩))⟩
 .rw [hds];refine⟨λB o hs=>?_,λb x hb=>h.sp.base b x (bJ cs hb),λb b' x x' hb hb' e=>h.sp.inj b b' x x' (bJ cs hb) (bJ cs hb') e,[],rfl,.nil⟩;rcases hs with ⟨b,x,hb,e,ho⟩|⟨hm,_⟩
  .obtain ⟨h1,h2,_⟩:=h.sp.ob B o (.inl ⟨b,x,bJ cs hb,e,ho⟩);refine⟨h1,λp hp=>?_,.inl (.inr (.inr ⟨b,x,hb,e⟩))⟩;obtain⟨b',j',rfl,_,h3⟩:=eG hp;exact h2 _ h3
  .cases hm
theorem RS.JN{bs cs own:List Box}{lo:Nat}(h:RS E G ⟨[],bs++cs,lo⟩ a w)(hol:own.length=bs.length){G':Gh}{r:AV}{v:Value}{w':World}
  (h':RS (cC ⟨G.M,G.σ,clF bs.length G.cl⟩ bs w 1) G' ⟨[(0,r)],own,bs.length⟩ ⟨#[v],[]⟩ w'):
  ∃G'',RS (cC G (bs++cs) w 1) G'' ⟨[(0,r)],own++cs,(bs++cs).length⟩ ⟨#[v],[]⟩ w':=by
 have hσ:∀b,b<bs.length->G'.σ b=G.σ b:=h'.sig;have hfr:Fr (dV ⟨G.M,G.σ,clF bs.length G.cl⟩ bs) G.M w G'.M w':=h'.fr
 have hFP:∀B,dV ⟨G.M,G.σ,clF bs.length G.cl⟩ bs B->dV G (bs++cs) B:=λB hB=>by
  rcases hB with ⟨b,ds,hb,e⟩|⟨b,j,hb⟩|⟨b,x,hb,e⟩
  .exact .inl ⟨b,ds,ba cs hb,e⟩
  .obtain ⟨b',j',e,_,h1⟩:=eG (n:=bs.length) (cl:=G.cl) (p:=.bx b j) hb;exact .inr (.inl ⟨b',j',h1⟩)
  .exact .inr (.inr ⟨b,x,bJ cs hb,e⟩)
 have hmine:∀B,(dV ⟨G.M,G.σ,clF bs.length G.cl⟩ bs B\/w.heap.size<=B)->(dV G (bs++cs) B\/w.heap.size<=B):=λB hB=>hB.imp (hFP B) id
 --what is behind is apart
 have noC:∀b ds,¬b<bs.length->aa (bs++cs) b=some ds->¬dV ⟨G.M,G.σ,clF bs.length G.cl⟩ bs (G.σ b):=λb ds hn hb hF=>by
  rcases hF with ⟨c,es,hc,e⟩|⟨c,j,hc⟩|⟨c,x,hc,e⟩
  .have:=h.inj c b es ds (ba cs hc) hb e;have:=aA hc;omega
  .obtain ⟨b',j',_,_,h1⟩:=eG (n:=bs.length) (cl:=G.cl) (p:=.bx c j) hc;exact h.clbox _ _ h1 b ds hb rfl
  .have h1:=(h.sp.ob _ _ (.inl ⟨c,x,bJ cs hc,e,rfl⟩)).1;obtain⟨vs,T,h2,_⟩:=h.box b ds hb;have h2:w.heap[G.σ b]? =some (.cells vs T (0,0)):=h2;exact x.yS (h2.symm.trans h1)
 have noCl:∀b j B,¬b<bs.length->G.cl (.bx b j)=some B->¬dV ⟨G.M,G.σ,clF bs.length G.cl⟩ bs B:=λb j B hn hb hF=>by
  rcases hF with ⟨c,es,hc,e⟩|⟨c,j',hc⟩|⟨c,x,hc,e⟩
  .exact h.clbox _ B hb c es (ba cs hc) e
  .obtain ⟨b',j'',e,hlt,h1⟩:=eG (n:=bs.length) (cl:=G.cl) (p:=.bx c j') hc;have:=h.clinj _ _ B hb h1;cases this;exact hn hlt
  .exact (h.sp.ob B _ (.inl ⟨c,x,bJ cs hc,e,rfl⟩)).2.1 _ hb
 have noL:∀b x,¬b<bs.length->ag (bs++cs) b=some x->¬dV ⟨G.M,G.σ,clF bs.length G.cl⟩ bs (G.σ b):=λb x hn hb hF=>by
  obtain⟨h1,h2,_⟩:=h.sp.ob _ _ (.inl ⟨b,x,hb,rfl,rfl⟩);rcases hF with ⟨c,es,hc,e⟩|⟨c,j',hc⟩|⟨c,y,hc,e⟩
  .obtain ⟨vs,T,h3,_⟩:=h.box c es (ba cs hc);have h3:w.heap[G.σ c]? =some (.cells vs T (0,0)):=h3;rw[show G.σ c=G.σ b from e] at h3;exact x.yS (h3.symm.trans h1)
  .obtain ⟨b',j'',_,_,h3⟩:=eG (n:=bs.length) (cl:=G.cl) (p:=.bx c j') hc;exact h2 _ h3
  .have:=h.sp.inj c b y x (bJ cs hc) hb e;have:=aO hc;omega
 have hlen:(own++cs).length=(bs++cs).length:=by simp[hol]
 have hbk:∀b ds,¬b<bs.length->aa (own++cs) b=some ds->aa (bs++cs) b=some ds:=λb ds hn hb=>by
  rw[gn,if_neg (by omega)] at hb
  rw[gn,if_neg hn,<-hol];exact hb
 have hfk:∀b ds,b<bs.length->aa (own++cs) b=some ds->aa own b=some ds:=λb ds hn hb=>by
  rw[gn,if_pos (by omega)] at hb;exact hb
 have hlk:∀b x,¬b<bs.length->ag (own++cs) b=some x->ag (bs++cs) b=some x:=λb x hn hb=>by
  rw[jd,if_neg (by omega)] at hb
  rw[jd,if_neg hn,<-hol];exact hb
 have hlf:∀b x,b<bs.length->ag (own++cs) b=some x->ag own b=some x:=λb x hn hb=>by
  rw[jd,if_pos (by omega)] at hb;exact hb
 have hnew:∀q B,G'.cl q=some B->dV ⟨G.M,G.σ,clF bs.length G.cl⟩ bs B\/w.heap.size<=B:=λq B hB=>(h'.cllt q B hB).2
 have hcl:∀p B,(λp:Pl=>match p with|.sl t=>G'.cl (.sl t)|.bx b j=>if b<bs.length then G'.cl (.bx b j) else G.cl (.bx b j)) p=some B->
   (G'.cl p=some B/\∀b j,p=.bx b j->b<bs.length)\/∃b j,p=.bx b j/\¬b<bs.length/\G.cl (.bx b j)=some B:=λp B hp=>by
  cases p with
  |sl t=>exact .inl ⟨hp,λb j e=>by cases e⟩
  |bx b j=>
   simp only at hp;split at hp
   .rename_i hb;exact .inl ⟨hp,λb' j' e=>by cases e;exact hb⟩
   .rename_i hb;exact .inr ⟨b,j,rfl,hb,hp⟩
 have hat:∀p x,(⟨[(0,r)],own++cs,(bs++cs).length⟩:St).at p=some x->((⟨[(0,r)],own,bs.length⟩:St).at p=some x/\(∀b j,p=.bx b j->b<bs.length)/\al G.σ ⟨#[v],[]⟩ w' p=al G'.σ ⟨#[v],[]⟩ w' p)\/
   (∃b j,p=.bx b j/\¬b<bs.length/\(⟨[],bs++cs,lo⟩:St).at (.bx b j)=some x/\al G.σ ⟨#[v],[]⟩ w' (.bx b j)=al G.σ a w (.bx b j)):=λp x hp=>by
  cases p with
  |sl t=>exact .inl ⟨hp,(λb j e=>by cases e),rfl⟩
  |bx b j=>
   simp only[St.at] at hp
   cases hb:aa (own++cs) b with
   |none=>rw[hb] at hp;cases hp
   |some ds=>
    rw[hb] at hp
    by_cases hn:b<bs.length
    .refine .inl ⟨by simp only[St.at,hfk b ds hn hb];exact hp,(λb' j' e=>by cases e;exact hn),?_⟩
     simp only[al,hσ b hn]
    .have hb':=hbk b ds hn hb;refine .inr ⟨b,j,rfl,hn,by simp only[St.at,hb'];exact hp,?_⟩
     simp only[al];rw[bK (hfr.heap _ (h.blt hb') (noC b ds hn hb'))]
 refine⟨⟨G'.M,G.σ,λp=>match p with|.sl t=>G'.cl (.sl t)|.bx b j=>if b<bs.length then G'.cl (.bx b j) else G.cl (.bx b j)⟩,
  ⟨hfr.os,hfr.tape,hfr.output,hfr.size,hfr.le,λB hB hn=>hfr.heap B hB (λk=>hn (hFP B k)),λB hB hn=>hfr.mem B hB (λk=>hn (hFP B k))⟩,h'.ok,rfl,λp x hp=>?_,λb j x hp=>?_,λb ds hb=>?_,λb ds hb=>?_,λb b' ds ds' hb hb' e=>?_,λp z l hp=>?_,λp q B hp hq=>?_,λp B hB b ds hb=>?_,λp B hB=>?_,rfl,by show (bs++cs).length<=(own++cs).length;omega,λ_ _=>rfl,?_⟩
 .rcases hat p x hp with ⟨h1,_,h2⟩|⟨b,j,rfl,_,h1,h2⟩
  .rw [h2];exact(h'.val p x h1).mono (Hp.le_refl _) (by simp) (λb hb=>(hσ b (by rw[<-hol];exact hb)).symm)
  .rw [h2,show (⟨[(0,r)],own++cs,(bs++cs).length⟩:St).bs.length=(bs++cs).length from hlen];exact(h.val _ _ h1).mono hfr.le (ZG _) (λ_ _=>rfl)
 .rcases hat _ x hp with ⟨h1,_,h2⟩|⟨b',j',e,_,h1,h2⟩
  .rw [h2];exact h'.one _ _ _ h1
  .cases e;rw[h2];exact h.one _ _ _ h1
 .by_cases hn:b<bs.length
  .have:=h'.box b ds (hfk b ds hn hb);simp only[hσ b hn] at this;exact this
  .have hb':=hbk b ds hn hb;obtain⟨vs,T,h1,h2⟩:=h.box b ds hb';exact⟨vs,T,(hfr.heap _ (h.blt hb') (noC b ds hn hb')).trans h1,h2⟩
 .by_cases hn:b<bs.length
  .have:=h'.bmem b ds (hfk b ds hn hb);simp only[hσ b hn] at this;exact⟨this.1,hmine _ this.2⟩
  .have hb':=hbk b ds hn hb;exact⟨λo=>(hfr.mem _ (h.blt hb') (noC b ds hn hb') o).trans ((h.bmem b ds hb').1 o),.inl (.inl ⟨b,ds,hb',rfl⟩)⟩
 .have key:∀c c' es es',c<bs.length->¬c'<bs.length->aa (own++cs) c=some es->aa (own++cs) c'=some es'->G.σ c=G.σ c'->False:=λc c' es es' h1 h2 h3 h4 h5=>by
   have h6:=(h'.bmem c es (hfk c es h1 h3)).2;rw[hσ c h1,h5] at h6;have h7:=hbk c' es' h2 h4;rcases h6 with h6|h6
   .exact noC c' es' h2 h7 h6
   .have:w.heap.size<=G.σ c':=h6;have h8:G.σ c'<w.heap.size:=h.blt h7;omega
  by_cases hn:b<bs.length
  .by_cases hn':b'<bs.length
   .exact h'.inj b b' ds ds' (hfk b ds hn hb) (hfk b' ds' hn' hb') (by rw[hσ b hn,hσ b' hn'];exact e)
   .exact (key b b' ds ds' hn hn' hb hb' e).elim
  .by_cases hn':b'<bs.length
   .exact (key b' b ds' ds hn' hn hb' hb e.symm).elim
   .exact h.inj b b' ds ds' (hbk b ds hn hb) (hbk b' ds' hn' hb') e
 .rcases hat p _ hp with ⟨h1,hp2,h2⟩|⟨b,j,rfl,hn,h1,h2⟩
  .obtain ⟨ad,k,h3,h4,h5⟩:=h'.own p z l h1;refine⟨ad,k,h2.trans h3,h4,?_⟩;rcases h5 with h5|⟨B,hB,h6,h7⟩
   .exact .inl h5
   .refine .inr ⟨B,?_,h6,h7.lt,h7.cells,h7.free,hmine _ h7.mine⟩
    cases p with
    |sl t=>exact hB
    |bx b j=>simp only[if_pos (hp2 b j rfl)];exact hB
  .obtain ⟨ad,k,h3,h4,h5⟩:=h.own _ _ _ h1;refine⟨ad,k,h2.trans h3,h4,?_⟩;rcases h5 with h5|⟨B,hB,h6,h7⟩
   .exact .inl h5
   .have hlt:=(h.cllt _ B hB).1;have hnF:=noCl b j B hn hB;obtain⟨vs,T,h8,h9⟩:=h7.cells;exact .inr ⟨B,by simp only[if_neg hn];exact hB,h6,h7.lt,⟨vs,T,(hfr.heap B hlt hnF).trans h8,h9⟩,λo ho=>(hfr.mem B hlt hnF o).trans (h7.free o ho),.inl (.inr (.inl ⟨b,j,hB⟩))⟩
 .have key:∀p' b j,G'.cl p'=some B->¬b<bs.length->G.cl (.bx b j)=some B->False:=λp' b j h1 h2 h3=>by
   rcases hnew p' B h1 with h4|h4
   .exact noCl b j B h2 h3 h4
   .have h5:B<w.heap.size:=(h.cllt _ B h3).1;omega
  rcases hcl p B hp with ⟨h1,_⟩|⟨b,j,rfl,hn,h1⟩
  .rcases hcl q B hq with ⟨h2,_⟩|⟨b',j',rfl,hn',h2⟩
   .exact h'.clinj _ _ B h1 h2
   .exact (key _ _ _ h1 hn' h2).elim
  .rcases hcl q B hq with ⟨h2,_⟩|⟨b',j',rfl,hn',h2⟩
   .exact (key _ _ _ h2 hn h1).elim
   .exact h.clinj _ _ B h1 h2
 .rcases hcl p B hB with ⟨h1,_⟩|⟨b',j',rfl,hn',h1⟩
  .by_cases hn:b<bs.length
   .have:=h'.clbox p B h1 b ds (hfk b ds hn hb)
    rwa [hσ b hn] at this
   .intro e;have e':G.σ b=B:=e;have hb':=hbk b ds hn hb;rcases hnew p B h1 with h4|h4
    .exact noC b ds hn hb' (e'▸h4)
    .have h5:G.σ b<w.heap.size:=h.blt hb';omega
  .by_cases hn:b<bs.length
   .intro e;have e':G.σ b=B:=e;have h6:=(h'.bmem b ds (hfk b ds hn hb)).2;rw[hσ b hn,e'] at h6;rcases h6 with h6|h6
    .exact noCl b' j' B hn' h1 h6
    .have h5:B<w.heap.size:=(h.cllt _ B h1).1;have:w.heap.size<=B:=h6;omega
   .exact h.clbox _ B h1 b ds (hbk b ds hn hb)
 .rcases hcl p B hB with ⟨h1,_⟩|⟨b',j',rfl,hn',h1⟩
  .exact ⟨(h'.cllt p B h1).1,hmine B (hnew p B h1)⟩
  .exact ⟨YT (h.cllt _ B h1).1 hfr.size,.inl (.inr (.inl ⟨b',j',h1⟩))⟩
 .refine ⟨λB o hs=>?_,λb x hb=>?_,λb b' x x' hb hb' e=>?_,[],rfl,.nil⟩
  .rcases hs with ⟨b,x,hb,e,ho⟩|⟨hm,_⟩
   .have e':G.σ b=B:=e
    by_cases hn:b<bs.length
    .obtain ⟨h1,h2,h3⟩:=h'.sp.ob B o (.inl ⟨b,x,hlf b x hn hb,(hσ b hn).trans e',ho⟩);refine⟨h1,λp hp=>?_,hmine B h3⟩;rcases hcl p B hp with ⟨h4,_⟩|⟨c,j,rfl,hn',h4⟩
     .exact h2 _ h4
     .rcases h3 with h5|h5
      .exact noCl c j B hn' h4 h5
      .have h6:B<w.heap.size:=(h.cllt _ B h4).1;have:w.heap.size<=B:=h5;omega
    .have hb':=hlk b x hn hb;obtain⟨h1,h2,_⟩:=h.sp.ob B o (.inl ⟨b,x,hb',e',ho⟩);have hlt:B<w.heap.size:=(Zh.1 h1).1;have hnF:=noL b x hn hb';rw[e'] at hnF;refine⟨(hfr.heap B hlt hnF).trans h1,λp hp=>?_,.inl (.inr (.inr ⟨b,x,hb',e'⟩))⟩;rcases hcl p B hp with ⟨h4,_⟩|⟨c,j,rfl,hn',h4⟩
     .rcases hnew p B h4 with h5|h5
      .exact hnF h5
      .omega
     .exact h2 _ h4
   .cases hm
  .by_cases hn:b<bs.length
   .obtain ⟨h1,h2,h3⟩:=h'.sp.base b x (hlf b x hn hb);exact⟨h1,h2,λc hc=>(hσ c (by omega)).symm.trans (h3 c hc)⟩
   .obtain ⟨h1,h2,h3⟩:=h.sp.base b x (hlk b x hn hb);exact⟨Hp.le_trans h1 hfr.le,h2,h3⟩
  .have e':G.σ b=G.σ b':=e
   have key:∀c c' y y',c<bs.length->¬c'<bs.length->ag (own++cs) c=some y->ag (own++cs) c'=some y'->G.σ c=G.σ c'->False:=λc c' y y' h1 h2 h3 h4 h5=>by
    have h6:=(h'.sp.ob _ _ (.inl ⟨c,y,hlf c y h1 h3,rfl,rfl⟩)).2.2;rw[hσ c h1,h5] at h6;have h7:=hlk c' y' h2 h4;rcases h6 with h6|h6
    .exact noL c' y' h2 h7 h6
    .have h8:=(Zh.1 (h.sp.ob _ _ (.inl ⟨c',y',h7,rfl,rfl⟩)).1).1;have:w.heap.size<=G.σ c':=h6;have h8:G.σ c'<w.heap.size:=h8;omega
   by_cases hn:b<bs.length
   .by_cases hn':b'<bs.length
    .exact h'.sp.inj b b' x x' (hlf b x hn hb) (hlf b' x' hn' hb') (by rw[hσ b hn,hσ b' hn'];exact e')
    .exact (key b b' x x' hn hn' hb hb' e').elim
   .by_cases hn':b'<bs.length
    .exact (key b' b x' x hn' hn hb' hb e'.symm).elim
    .exact h.sp.inj b b' x x' (hlk b x hn hb) (hlk b' x' hn' hb') e'
end
theorem mH.frame{P:Program}{b:Nat}{y:List AV}{bs:List Box}{Q:AV->List Box->Prop}(h:mH P b y bs Q)(hlt:aj bs.length bs=true)(hy:∀v∈y,v.lt bs.length=true)(hQ:∀r bs',Q r bs'->r.lt bs.length=true/\aj bs.length (bs'.take bs.length)=true)(cs:List Box):
  mH P b y (bs++cs) λr bs'=>∃own,Q r own/\bs'=own.take bs.length++cs:=by
 intro E G a0 w args lo hpre hal hav;have h0:=hpre.hide hlt ⟨#[],[]⟩ rfl;obtain⟨f,tmps,assign,body,hyr,hround⟩:=h _ _ _ w args _ h0 hal (λj hj v hv=>(hav j hj v hv).lt (hy _ (Zc hj)));refine⟨f,tmps,assign,body,hyr,λrd n=>(hround rd n).mono ?_⟩;rintro e w' ⟨v,r,bs',G',rfl,hq,h'⟩;obtain⟨hr,hb'⟩:=hQ r bs' hq;have hle:bs.length<=bs'.length:=h'.len;obtain⟨G2,h2⟩:=aB.cut ⟨[(0,r)],bs',bs.length⟩ bs.length (ZG _) hle (by simp only[mi,hr];rfl) hb' _ _ _ _ h'
 obtain⟨G3,h3⟩:=hpre.JN (by simp;omega) h2
 exact⟨v,r,_,G3,rfl,⟨bs',hq,rfl⟩,h3⟩
end Go.AM
namespace Go.AM
open Go.CK Go.RowKit
def BV(P:Program)(gf:FuncId)(lb:List AV)(xs:List (List AV)):Prop:=
 ∀(b:Nat) (bs:List Box) (J:List (List AV)->List Box->Prop) (Jx:List Box->Prop),b<bs.length->(∀pre bs',J pre bs'->bs'.length=bs.length/\aj bs.length bs'=true)->(∀bs',Jx bs'->bs'.length=bs.length/\aj bs.length bs'=true)->
  (∀pre y rest bs' cs,pre++y::rest=xs->J pre bs'->mH P b y (bs'++cs) λr bs2=>∃own,bs2=own++cs/\((r=.bool true/\J (pre++[y]) own)\/(r=.bool false/\Jx own)))->J [] bs->
  Sem P gf (.yl b::lb) bs λ_ bs'=>J xs bs'\/Jx bs'
theorem Cz{m n:Nat}(hmn:m<=n){x:AV}(h:x.lt0 m=true):x.lt0 n=true:=by
 cases x<;>first|exact h|(simp only[AV.lt0,decide_eq_true_eq] at h|-;omega)
theorem yU{m n:Nat}(hmn:m<=n){x:AV}(h:x.lt1 m=true):x.lt1 n=true:=by
 cases x with
 |fn f xs ys=>
  simp only[AV.lt1,ZD,ZS] at h|-
  exact⟨λy hy=>Cz hmn (h.1 y hy),λy hy=>Cz hmn (h.2 y hy)⟩
 |_=>simp only[AV.lt1] at h|-;exact Cz hmn h
theorem Kl{m n:Nat}(hmn:m<=n){x:AV}(h:x.lt2 m=true):x.lt2 n=true:=by
 cases x with
 |agg cs=>simp only[AV.lt2,ZS] at h|-;exact λy hy=>yU hmn (h y hy)
 |_=>simp only[AV.lt2] at h|-;exact yU hmn h
theorem G0{m n:Nat}(hmn:m<=n){x:AV}(h:x.lt m=true):x.lt n=true:=by
 cases x with
 |agg cs=>simp only[AV.lt,ZS] at h|-;exact λy hy=>yU hmn (h y hy)
 |tup cs=>simp only[AV.lt,ZS] at h|-;exact λy hy=>Kl hmn (h y hy)
 |ept cs=>rfl
 |sl o l=>rfl
 |_=>simp only[AV.lt] at h|-;exact yU hmn h
theorem bf{m n:Nat}(hmn:m<=n):∀{bs:List Box},aj m bs=true->aj n bs=true
 |[],_=>rfl
 |.cells cs::r,h=>by
  simp only[aj,ZD,ZS] at h|-
  exact⟨λx hx=>G0 hmn (h.1 x hx),bf hmn h.2⟩
 |.dead::r,h=>by simp only[aj] at h|-;exact bf hmn h
 |.loop x::r,h=>by simp only[aj] at h|-;exact bf hmn h
 |.mp x::r,h=>by simp only[aj] at h|-;exact bf hmn h
 |.mq x c::r,h=>by simp only[aj] at h|-;exact bf hmn h
 |.row ds::r,h=>by
  simp only[aj,ZD,ZS] at h|-;exact⟨λx hx=>G0 hmn (h.1 x hx),bf hmn h.2⟩
theorem aW{n:Nat}:∀{bs cs:List Box},aj n bs=true->aj n cs=true->aj n (bs++cs)=true
 |[],_,_,h=>h
 |.cells ds::r,cs,h,k=>by
  simp only[aj,ZD,Ze] at h|-
  exact⟨h.1,aW h.2 k⟩
 |.dead::r,cs,h,k=>by simp only[aj,Ze] at h|-;exact aW h k
 |.loop x::r,cs,h,k=>by simp only[aj,Ze] at h|-;exact aW h k
 |.mp x::r,cs,h,k=>by simp only[aj,Ze] at h|-;exact aW h k
 |.mq x c::r,cs,h,k=>by simp only[aj,Ze] at h|-;exact aW h k
 |.row ds::r,cs,h,k=>by
  simp only[aj,ZD,Ze] at h|-;exact⟨h.1,aW h.2 k⟩
theorem lY{own:List Box}(h:aj own.length own=true)(x:LB):aj (own.length+1) (own++[.loop x])=true:=aW (bf (Nat.le_succ _) h) rfl
theorem BV.use{P:Program}{gf:FuncId}{lb:List AV}{xs:List (List AV)}(hi:BV P gf lb xs)(b:Nat)(bs:List Box)(J:List (List AV)->List Box->Prop)(Jx:List Box->Prop)(hb:b<bs.length)
  (hJ:∀pre bs',J pre bs'->bs'.length=bs.length/\aj bs.length bs'=true) (hJx:∀bs',Jx bs'->bs'.length=bs.length/\aj bs.length bs'=true) (hy:∀y∈xs,∀v∈y,v.lt bs.length=true)
  (hr:∀pre y rest bs,pre++y::rest=xs->J pre bs->mH P b y bs λr bs'=>(r=.bool true/\J (pre++[y]) bs')\/(r=.bool false/\Jx bs')) (h0:J [] bs):
  Sem P gf (.yl b::lb) bs λ_ bs'=>J xs bs'\/Jx bs':=by
 refine hi b bs J Jx hb hJ hJx (λpre y rest bs' cs hxs hj=>?_) h0;obtain⟨hl,hlt⟩:=hJ pre bs' hj
 have:=(hr pre y rest bs' hxs hj).frame (by rw[hl];exact hlt) (λv hv=>by rw[hl];exact hy y (by rw[<-hxs];simp) v hv) (λr bs2 hq=>by
  rcases hq with ⟨rfl,hq⟩|⟨rfl,hq⟩
  .obtain ⟨h1,h2⟩:=hJ _ _ hq;exact⟨rfl,by rw[hl,<-h1,Zw];rw[h1];exact h2⟩
  .obtain ⟨h1,h2⟩:=hJx _ hq;exact⟨rfl,by rw[hl,<-h1,Zw];rw[h1];exact h2⟩) cs
 intro E G a0 w args lo h1 h2 h3;obtain⟨f,tmps,assign,body,h4,h5⟩:=this E G a0 w args lo h1 h2 h3;refine⟨f,tmps,assign,body,h4,λrd n=>(h5 rd n).mono ?_⟩;rintro e w' ⟨v,r,bs2,G',rfl,⟨own,hq,rfl⟩,h6⟩;refine⟨v,r,_,G',rfl,⟨own,?_,?_⟩,h6⟩
 .have:own.length=bs'.length:=by
   rcases hq with ⟨_,hq⟩|⟨_,hq⟩
   .rw [hl];exact(hJ _ _ hq).1
   .rw [hl];exact(hJx _ hq).1
  rw[<-this,Zw]
 .exact hq
theorem ah.eqS{s t:St}(h1:s.env=t.env)(h2:s.bs=t.bs)(h3:s.lo=t.lo):ah s t:=by
 obtain⟨a,b,c⟩:=s;obtain⟨a',b',c'⟩:=t;simp only at h1 h2 h3;subst h1 h2 h3;exact⟨aB.refl _⟩
end Go.AM
