/-
  Texts of this aZ joined (wip/gen/bundle.py),those declarations only that are needed:AmF AmG AmH AmJ AmK. By an AI agent.
-/
import Derived.Test.YtpihbplamelcnaaGreatBan
set_option linter.unusedSimpArgs false
set_option linter.unusedVariables false
namespace Go.AM
open Go.CK Go.RowKit
def lits:List Nat:=[0,1,2,3,4,5,6,7,8,9,10,11,12,13,14,15,16,17,18,19,20,21,22,23,24,25,26,27,28,29,30,31,32,33,34,35,36,37,38,39,40]
def Ej(n:Nat)(K:Nat->Prop):Prop:=
 match lits[n]? with
 |some m=>K m
 |none=>K n
theorem HZ(n:Nat)(K:Nat->Prop):Ej n K=K n:=by
 unfold Ej;split
 .rename_i m h
  have:m=n:=by
   have hlt:n<lits.length:=by
    rcases zt n lits.length with h1|h1
    .exact h1
    .rw [zR h1] at h;cases h
   have hall:∀k,(hk:k<lits.length)->lits[k]=k:=by decide
   rw[zA hlt] at h;cases h;exact hall n hlt
  rw[this]
 .rfl
def f1(x:AV)(K:AV->Prop):Prop:=
 match x with
 |.top=>K .top
 |.bool b=>K (.bool b)
 |.int k n=>K (.int k n)
 |.str s=>K (.str s)
 |.sl o l=>match o with
  |.no=>K (.sl .no l)
  |.full=>K (.sl .full l)
  |.own z=>K (.sl (.own z) l)
 |.agg cs=>K (.agg cs)
 |.tup vs=>K (.tup vs)
 |.ptr b off=>Ej b λb=>Ej off λoff=>K (.ptr b off)
 |.uL=>K .uL
 |.ept cs=>K (.ept cs)
 |.fn f xs ys=>K (.fn f xs ys)
 |.yl b=>K (.yl b)
 |.bsl b m k=>Ej b λb=>K (.bsl b m k)
 |.elp b i z off=>Ej b λb=>K (.elp b i z off)
 |.mpt b=>Ej b λb=>K (.mpt b)
 |.nfn=>K .nfn
 |.nmp=>K .nmp
 |.wE=>K .wE
theorem NJ(x:AV)(K:AV->Prop):f1 x K=K x:=by
 cases x<;>first|(simp only[f1,HZ];done)|skip
 rename_i o l;cases o<;>rfl
def fs(l:List AV)(K:List AV->Prop):Prop:=
 match l with
 |[]=>K []
 |x::xs=>f1 x λx=>fs xs λxs=>K (x::xs)
theorem Lo:∀(l:List AV) (K:List AV->Prop),fs l K=K l
 |[],_=>rfl
 |x::xs,K=>by rw[fs,NJ,Lo xs]
def fv(x:AV)(K:AV->Prop):Prop:=
 match x with
 |.agg cs=>fs cs λcs=>K (.agg cs)
 |.tup cs=>fs cs λcs=>K (.tup cs)
 |.ept cs=>fs cs λcs=>K (.ept cs)
 |.fn f xs ys=>fs xs λxs=>fs ys λys=>K (.fn f xs ys)
 |x=>f1 x K
theorem Bf(x:AV)(K:AV->Prop):fv x K=K x:=by
 cases x<;>simp only[fv,Lo,NJ]
def fvs(l:List AV)(K:List AV->Prop):Prop:=
 match l with
 |[]=>K []
 |x::xs=>fv x λx=>fvs xs λxs=>K (x::xs)
theorem Ll:∀(l:List AV) (K:List AV->Prop),fvs l K=K l
 |[],_=>rfl
 |x::xs,K=>by rw[fvs,Bf,Ll xs]
def fvq(x:AV)(K:AV->Prop):Prop:=
 match x with
 |.ptr b off=>K (.ptr b off)
 |.bsl b m k=>K (.bsl b m k)
 |.elp b i z off=>K (.elp b i z off)
 |.mpt b=>K (.mpt b)
 |.fn f xs ys=>K (.fn f xs ys)
 |x=>fv x K
theorem Lm(x:AV)(K:AV->Prop):fvq x K=K x:=by
 cases x<;>simp only[fvq,Bf]
def Ju(l:List AV)(K:List AV->Prop):Prop:=
 match l with
 |[]=>K []
 |x::xs=>fvq x λx=>Ju xs λxs=>K (x::xs)
theorem sF:∀(l:List AV) (K:List AV->Prop),Ju l K=K l
 |[],_=>rfl
 |x::xs,K=>by rw[Ju,Lm,sF xs]
def fvn(fb:Bool)(x:AV)(K:AV->Prop):Prop:=
 match fb with
 |true=>fv x K
 |false=>fvq x K
theorem OH(fb:Bool)(x:AV)(K:AV->Prop):fvn fb x K=K x:=by
 cases fb
 .simp only[fvn,Lm]
 .simp only[fvn,Bf]
def G4(fb:Bool)(e:List (Nat×AV))(K:List (Nat×AV)->Prop):Prop:=
 match e with
 |[]=>K []
 |(t,x)::r=>fvn fb x λx=>G4 fb r λr=>K ((t,x)::r)
theorem sG(fb:Bool):∀(e:List (Nat×AV)) (K:List (Nat×AV)->Prop),G4 fb e K=K e
 |[],_=>rfl
 |(t,x)::r,K=>by rw[G4,OH,sG fb r]
def fBs(e:List Box)(K:List Box->Prop):Prop:=
 match e with
 |[]=>K []
 |.cells cs::r=>fs cs λcs=>fBs r λr=>K (.cells cs::r)
 |.dead::r=>fBs r λr=>K (.dead::r)
 |.loop x::r=>fBs r λr=>K (.loop x::r)
 |.row x::r=>fBs r λr=>K (.row x::r)
 |.mp x::r=>fBs r λr=>K (.mp x::r)
 |.mq x c::r=>fBs r λr=>K (.mq x c::r)
theorem lj:∀(e:List Box) (K:List Box->Prop),fBs e K=K e
 |[],_=>rfl
 |.cells cs::r,K=>by rw[fBs,Lo,lj r]
 |.dead::r,K=>by rw[fBs,lj r]
 |.loop x::r,K=>by rw[fBs,lj r]
 |.row x::r,K=>by rw[fBs,lj r]
 |.mp x::r,K=>by rw[fBs,lj r]
 |.mq x c::r,K=>by rw[fBs,lj r]
def St.fo(fb:Bool)(s:St)(K:St->Prop):Prop:=match s with
 |⟨e,bs,lo⟩=>G4 fb e λe=>match fb with
  |true=>fBs bs λbs=>Ej lo λlo=>K ⟨e,bs,lo⟩
  |false=>K ⟨e,bs,lo⟩
theorem St.c7(fb:Bool)(s:St)(K:St->Prop):s.fo fb K=K s:=by
 cases fb<;>simp only[St.fo,sG,lj,HZ]
structure aa(P:Program)(f:FuncId)(vals raw:List AV)(bs:List Box)(K:AV->List Box->Prop):Prop where
 sem:∃Q,(Sem P f vals bs Q\/Sem P f raw bs Q)/\∀r bs',Q r bs'->K r bs'
theorem aa.raw{P:Program}{f:FuncId}{vals raw:List AV}{bs:List Box}{K:AV->List Box->Prop}{Q:AV->List Box->Prop}(h:Sem P f raw bs Q)(hK:∀r bs',Q r bs'->K r bs'):aa P f vals raw bs K:=⟨Q,.inr h,hK⟩
theorem aa.fn{P:Program}{f:FuncId}{vals raw:List AV}{bs:List Box}{K:AV->List Box->Prop}{r:AV}(h:Fun P f vals r)(hK:K r bs):aa P f vals raw bs K:=⟨_,.inl (h bs),λr' bs' ⟨e1,e2⟩=>by subst e1 e2;exact hK⟩
structure aX(P:Program)(f:FuncId)(vals:List AV)(K:AV->Prop):Prop where
 sem:∃r,Fun P f vals r/\K r
theorem aX.fn{P:Program}{f:FuncId}{vals:List AV}{K:AV->Prop}{r:AV}(h:Fun P f vals r)(hK:K r):aX P f vals K:=⟨r,h,hK⟩
structure Di(P:Program)(b:Nat)(vals:List AV)(bs:List Box)(K:AV->List Box->Prop):Prop where
 sem:∃Q,pd P b vals bs Q/\∀r bs',Q r bs'->K r bs'
theorem Di.of{P:Program}{b:Nat}{vals:List AV}{bs:List Box}{K:AV->List Box->Prop}{Q:AV->List Box->Prop}(h:pd P b vals bs Q)(hK:∀r bs',Q r bs'->K r bs'):Di P b vals bs K:=⟨Q,h,hK⟩
def St.pt(s:St)(d:Option Nat)(x:AV):St:=match s with
 |⟨e,bs,lo⟩=>match d with
  |some k=>⟨aV e k x,bs,lo⟩
  |none=>⟨e,bs,lo⟩
theorem St.rT(s:St)(d:Option Nat)(x:AV):s.pt d x=s.put d x:=by cases s;cases d<;>rfl
def St.kp(s:St)(ks:List Nat):St:=match s with
 |⟨e,bs,lo⟩=>⟨fj (λk=>mem k ks) e,bs,lo⟩
def St.wb(s:St)(bs':List Box):St:=match s with
 |⟨e,_,lo⟩=>⟨e,bs',lo⟩
theorem St.J6(s:St)(bs':List Box):s.wb bs'=⟨s.env,bs',s.lo⟩:=by cases s;rfl
def fsq(l:List AV)(K:List AV->Prop):Prop:=Ju l K
theorem Ln(l:List AV)(K:List AV->Prop):fsq l K=K l:=sF l K
def xE(P:Program)(dr:Bool)(s:St)(d:Option Nat)(f:AV)(args:List AV)(K:St->Prop):Prop:=
 match f with
 |.fn (.func f) xs ys=>Ju ((xs++args++ys).map AV.norm) λvals=>match dr with
  |true=>aX P f vals λr=>K (s.pt d r)
  |false=>match s with
   |⟨e,bs,lo⟩=>aa P f vals (xs++args++ys) bs λr bs'=>K (St.pt ⟨e,bs',lo⟩ d r)
 |.yl b=>match dr with
  |true=>False
  |false=>Ju (args.map AV.norm) λvals=>match s with
   |⟨e,bs,lo⟩=>Di P b vals bs λr bs'=>K (St.pt ⟨e,bs',lo⟩ d r)
 |_=>False
theorem xD{P:Program}{dr:Bool}{s:St}{d:Option Nat}{f:AV}{args:List AV}{K:St->Prop}:xE P dr s d f args K=(match dr with
  |true=>fI P f args λr=>K (s.put d r)
  |false=>kx P s d f args K):=by
 cases dr with
 |true=>
  cases f<;>try rfl
  rename_i f xs ys;cases f<;>try rfl
  simp only[xE,fI,sF,St.rT]
  exact propext ⟨λh=>h.sem,λh=>⟨h⟩⟩
 |false=>
  cases f<;>try rfl
  .rename_i f xs ys;cases f<;>try rfl
   simp only[xE,kx,sF,St.rT,St.J6];exact propext ⟨λh=>h.sem,λh=>⟨h⟩⟩
  .simp only[xE,kx,sF,St.rT,St.J6];exact propext ⟨λh=>h.sem,λh=>⟨h⟩⟩
structure Ns(s:St)(rs:List cL)(Q:AV->List Box->Prop):Prop where
 out:∃s',aE s s'/\pM s' rs Q
structure ah(s t:St):Prop where
 out:aE s t
end Go.AM
namespace Go.AM
open Go.CK Go.RowKit
structure OY(s:St)(e:AX)(J:AX->List Box->Prop):Prop where
 out:∃s3 own,aE s s3/\s3.bs=own++[.dead]/\J e own
theorem ah.Hc{s t:St}(b off z:Nat){l:List AV}(h0:s.at (.bx b off)=some (.sl .full l))(hz:∀y∈l,y.cells.length=z)(h:ah (s.upd (.bx b off) (.sl (.own z) l)) t):ah s t:=
 ⟨aE.trans (λ_ G _ _ hs=>⟨G,hs.aZ h0 hz⟩) h.out⟩
theorem jt{own:List Box}{n:Nat}(h:own.length=n)(x y:Box):(own++[x]).set n y=own++[y]:=by
 subst h;simp
end Go.AM
namespace Go.AM
open Go.CK Go.RowKit
def q9(b:Nat)(cs:List AV):AV->AV
 |.ptr b' off=>match Nat.beq b' b with
  |true=>.ept (cs.drop off)
  |false=>.ptr b' off
 |x=>x
def x5(b:Nat)(cs:List AV):AV->AV
 |.fn f xs ys=>.fn f (xs.map (q9 b cs)) (ys.map (q9 b cs))
 |x=>q9 b cs x
theorem RV.q9{M:Hp}{σ:Nat->Nat}{n b:Nat}{cs:List AV}(hc:Cells M (σ b) 0 cs){x:AV}{v:Value}(h:RV M σ n x v):RV M σ n (q9 b cs x) v:=by
 unfold AM.q9;split
 .rename_i b' off;obtain⟨rfl,_⟩:=h.jd;split
  .rename_i hb;have:=zO hb;subst this;refine .ept _ _ _ ?_;have:=hc.drop off
   rwa [ZI] at this
  .exact h
 .exact h
theorem RV.x5{M:Hp}{σ:Nat->Nat}{n b:Nat}{cs:List AV}(hc:Cells M (σ b) 0 cs){x:AV}{v:Value}(h:RV M σ n x v):RV M σ n (x5 b cs x) v:=by
 unfold AM.x5;split
 .rename_i f xs ys;obtain⟨us,vs,rfl,h1,h2,h3,h4⟩:=h.qD;refine .fn f _ _ us vs (by simp[h1]) (by simp[h2]) (λj hj v hv=>?_) (λj hj v hv=>?_)
  .simp only[zF] at hj;rw[ZD];exact(h3 j hj v hv).q9 hc
  .simp only[zF] at hj;rw[ZD];exact(h4 j hj v hv).q9 hc
 .exact h.q9 hc
section
variable{E:Entry}{G:Gh}{s:St}{a:Act}{w:World}
theorem RS.dead(h:RS E G s a w){b:Nat}{cs:List AV}(hb:ab s.bs b=some cs)(hf:∀x∈cs,x.a7=true):
  ∃G':Gh,RS E G' ⟨s.env,s.bs.set b .dead,s.lo⟩ a w/\G'.σ=G.σ/\Cells G'.M (G.σ b) 0 cs:=by
 obtain⟨vs,T,h1,h2⟩:=h.box b cs hb;obtain⟨hM,hmine⟩:=h.bmem b cs hb;have hle:G.M.le (bp G.M (G.σ b) 0 vs.toList):=dE λo _=>hM o
 have hat:∀p x,(⟨s.env,s.bs.set b .dead,s.lo⟩:St).at p=some x->s.at p=some x/\∀j,p≠.bx b j:=λp x hp=>by
  cases p with
  |sl t=>exact⟨hp,λj e=>by cases e⟩
  |bx c j=>
   simp only[St.at,bY] at hp|-
   by_cases e:c=b
   .rw [if_pos e] at hp;cases hp
   .rw [if_neg e] at hp;exact⟨hp,λj' e'=>by cases e';exact e rfl⟩
 have hbc:∀c ds,ab (s.bs.set b .dead) c=some ds->ab s.bs c=some ds/\G.σ c≠G.σ b:=λc ds hc=>by
  rw[bY] at hc
  by_cases e:c=b
  .rw [if_pos e] at hc;cases hc
  .rw [if_neg e] at hc;exact⟨hc,λe2=>e (h.inj c b ds cs hc hb e2)⟩
 have hlen:(s.bs.set b .dead).length=s.bs.length:=by simp
 refine⟨{G with M:=bp G.M (G.σ b) 0 vs.toList},⟨⟨h.fr.os,h.fr.tape,h.fr.output,h.fr.size,Hp.le_trans h.fr.le hle,h.fr.heap,λB hB hn o=>?_⟩,λc o v hv=>?_,h.nt,λp x hp=>?_,λc j x hp=>h.one c j x (hat _ x hp).1,λc ds hc=>h.box c ds (hbc c ds hc).1,λc ds hc=>?_,λc c' ds ds' hc hc' e=>h.inj c c' ds ds' (hbc c ds hc).1 (hbc c' ds' hc').1 e,λp z l hp=>?_,h.clinj,λp B hB c ds hc=>h.clbox p B hB c ds (hbc c ds hc).1,h.cllt,h.lo,by rw[hlen];exact h.len,h.sig,?_⟩,rfl,λj hj=>?_⟩
 .have hne:B≠G.σ b:=λe=>by
   subst e;rcases hmine with h3|h3
   .exact hn h3
   .omega
  exact(dD hne o).trans (h.fr.mem B hB hn o)
 .rcases ny hv with ⟨rfl,j,rfl,hj⟩|hv
  .simp only[Hp.of,World.cell?,h1];simpa using hj
  .exact h.ok c o v hv
 .rw [hlen];exact(h.val p x (hat p x hp).1).mono hle (zG _) (λ_ _=>rfl)
 .obtain ⟨h3,h4⟩:=hbc c ds hc;obtain⟨h5,h6⟩:=h.bmem c ds h3;exact⟨λo=>(dD h4 o).trans (h5 o),h6⟩
 .obtain ⟨ad,k,h3,h4,h5⟩:=h.own p z l (hat p _ hp).1;refine⟨ad,k,h3,h4,?_⟩;rcases h5 with h5|⟨B,hB,h6,h7⟩
  .exact .inl h5
  .exact .inr ⟨B,hB,h6,h7.lt,h7.cells,λo ho=>(dD (λe=>h.clbox p B hB b cs hb e.symm) o).trans (h7.free o ho),h7.mine⟩
 .refine h.sp.step hle (λ_ _=>rfl) (λc x hc=>?_) (λ_ _ k _=>k) (λ_ _ _ _ p k=>⟨p,k⟩) (λ_ k=>k);rw[c8] at hc;split at hc
  .cases hc
  .exact hc
 .obtain ⟨u,h3,h4,h5⟩:=h.C5 hb j hj;have hfl:=hf _ (zc hj)
  have hd:(cs[j]).aG=cs[j]:=by
   generalize cs[j]=y at*;cases y<;>try rfl
   rename_i o l;cases o<;>first|rfl|cases hfl
  rw[hd] at h5
  have hju:vs.toList[j]? =some u:=by
   simp only[World.cell?,h1] at h3;simpa using h3
  exact⟨u,by have:=gQ (M:=G.M) (B:=G.σ b) (off:=0) hju;exact this,h4,(h5.a7 hfl).mono hle⟩
theorem aE.freeze(s:St)(t b:Nat){cs:List AV}{x:AV}(ht:aq s.env t=some x)(hb:ab s.bs b=some cs)(hf:cs.all AV.a7=true)(hx:x.aG=x):aE s ⟨aV s.env t (x5 b cs x),s.bs.set b .dead,s.lo⟩:=λE G a w hs=>by
 obtain⟨G',h1,h2,h3⟩:=hs.dead hb (by simpa using hf)
 have hat:(⟨s.env,s.bs.set b .dead,s.lo⟩:St).at (.sl t)=some x:=ht;have hv:=h1.val _ _ hat;rw[hx] at hv;rw[<-h2] at h3;exact⟨G',h1.upd (q:=.sl t) hat (hv.x5 h3)⟩
end
theorem Ns.freeze{s:St}{t:Nat}(b:Nat){cs:List AV}{x:AV}{Q:AV->List Box->Prop}(h0:aq s.env t=some x)(hb:ab s.bs b=some cs)(hf:cs.all AV.a7=true)(hx:x.aG=x)(h:fv (x5 b cs x) λx=>Q x (s.bs.set b .dead)):Ns s [.slot t] Q:=
 ⟨_,aE.freeze s t b h0 hb hf hx,by
  have:(⟨aV s.env t (x5 b cs x),s.bs.set b .dead,s.lo⟩:St).get t=x5 b cs x:=by simp[St.get,eE]
  simp only[pM];rw[Bf] at h;rw[this];exact h⟩
end Go.AM
namespace Go.AM
open Go.CK Go.RowKit
def clF(n:Nat)(cl:Pl->Option Nat):Pl->Option Nat
 |.sl _=>none
 |.bx b j=>if b<n then cl (.bx b j) else none
theorem fm{n:Nat}{cl:Pl->Option Nat}{p:Pl}{B:Nat}(h:clF n cl p=some B):∃b j,p=.bx b j/\b<n/\cl (.bx b j)=some B:=by
 cases p with
 |sl t=>cases h
 |bx b j=>
  simp only[clF] at h;split at h
  .exact ⟨b,j,rfl,by assumption,h⟩
  .cases h
theorem jh{bs cs:List Box}{b:Nat}:ab (bs++cs) b=if b<bs.length then ab bs b else ab cs (b-bs.length):=by
 simp only[ab]
 by_cases h:b<bs.length
 .rw [zK h,if_pos h]
 .rw [zZ (by omega),if_neg h]
theorem ky{bs cs:List Box}{b:Nat}:ag (bs++cs) b=if b<bs.length then ag bs b else ag cs (b-bs.length):=by
 simp only[ag]
 by_cases h:b<bs.length
 .rw [zK h,if_pos h]
 .rw [zZ (by omega),if_neg h]
theorem bn{bs:List Box}(cs:List Box){b:Nat}{ds:List AV}(h:ab bs b=some ds):ab (bs++cs) b=some ds:=by
 rw[jh,if_pos (aC h)];exact h
theorem bW{bs:List Box}(cs:List Box){b:Nat}{x:LB}(h:ag bs b=some x):ag (bs++cs) b=some x:=by
 rw[ky,if_pos (aW h)];exact h
section
variable{E:Entry}{G:Gh}{a:Act}{w:World}
theorem RS.hide{bs cs:List Box}{lo:Nat}(h:RS E G ⟨[],bs++cs,lo⟩ a w)(hlt:ai bs.length bs=true)(a':Act)(hds:a'.defers=[]):
  RS (cH ⟨G.M,G.σ,clF bs.length G.cl⟩ bs w a'.tmps.size) ⟨G.M,G.σ,clF bs.length G.cl⟩ ⟨[],bs,bs.length⟩ a' w:=by
 have hat:∀p x,(⟨[],bs,bs.length⟩:St).at p=some x->∃b j ds,p=.bx b j/\b<bs.length/\ab bs b=some ds/\ds[j]? =some x/\(⟨[],bs++cs,lo⟩:St).at (.bx b j)=some x:=λp x hp=>by
  cases p with
  |sl t=>simp[St.at,aq] at hp
  |bx b j=>
   simp only[St.at] at hp
   cases hb:ab bs b with
   |none=>rw[hb] at hp;cases hp
   |some ds=>
    rw[hb] at hp;refine⟨b,j,ds,rfl,aC hb,hb,hp,?_⟩;simp only[St.at,bn cs hb];exact hp
 refine⟨Fr.refl _ _ _,h.ok,rfl,λp x hp=>?_,λb j x hp=>?_,λb ds hb=>h.box b ds (bn cs hb),λb ds hb=>⟨(h.bmem b ds (bn cs hb)).1,.inl (.inl ⟨b,ds,hb,rfl⟩)⟩,λb b' ds ds' hb hb' e=>h.inj b b' ds ds' (bn cs hb) (bn cs hb') e,λp z l hp=>?_,λp q B hp hq=>?_,λp B hB b ds hb=>?_,λp B hB=>?_,rfl,zG _,λ_ _=>rfl,?_⟩
 .obtain ⟨b,j,ds,rfl,_,hb,hj,hx⟩:=hat p x hp;exact(h.val _ _ hx).lt (by rw[wM];exact cR hlt hb hj)
 .obtain ⟨b',j',ds,e,_,_,_,hx⟩:=hat _ x hp;cases e;exact h.one _ _ _ hx
 .obtain ⟨b,j,ds,rfl,hbl,hb,hj,hx⟩:=hat p _ hp;obtain⟨ad,k,h1,h2,h3⟩:=h.own _ _ _ hx;refine⟨ad,k,h1,h2,?_⟩;rcases h3 with h3|⟨B,hB,h4,h5⟩
  .exact .inl h3
  .have hB':clF bs.length G.cl (.bx b j)=some B:=by simp only[clF,if_pos hbl];exact hB
   exact .inr ⟨B,hB',h4,h5.lt,h5.cells,h5.free,.inl (.inr (.inl ⟨b,j,hB'⟩))⟩
 .obtain ⟨b,j,rfl,_,h1⟩:=fm hp;obtain⟨b',j',rfl,_,h2⟩:=fm hq;exact h.clinj _ _ B h1 h2
 .obtain ⟨b',j',rfl,_,h1⟩:=fm hB;exact h.clbox _ B h1 b ds (bn cs hb)
 .have hB0:=hB;obtain⟨b',j',rfl,_,h1⟩:=fm hB;exact⟨(h.cllt _ B h1).1,.inl (.inr (.inl ⟨b',j',hB0⟩))⟩
 .rw [hds];refine⟨λB o hs=>?_,λb x hb=>h.sp.base b x (bW cs hb),λb b' x x' hb hb' e=>h.sp.inj b b' x x' (bW cs hb) (bW cs hb') e,[],rfl,.nil⟩;rcases hs with ⟨b,x,hb,e,ho⟩|⟨hm,_⟩
  .obtain ⟨h1,h2,_⟩:=h.sp.ob B o (.inl ⟨b,x,bW cs hb,e,ho⟩);refine⟨h1,λp hp=>?_,.inl (.inr (.inr ⟨b,x,hb,e⟩))⟩;obtain⟨b',j',rfl,_,h3⟩:=fm hp;exact h2 _ h3
  .cases hm
theorem RS.NU{bs cs own:List Box}{lo:Nat}(h:RS E G ⟨[],bs++cs,lo⟩ a w)(hol:own.length=bs.length){G':Gh}{r:AV}{v:Value}{w':World}
  (h':RS (cH ⟨G.M,G.σ,clF bs.length G.cl⟩ bs w 1) G' ⟨[(0,r)],own,bs.length⟩ ⟨#[v],[]⟩ w'):
  ∃G'',RS (cH G (bs++cs) w 1) G'' ⟨[(0,r)],own++cs,(bs++cs).length⟩ ⟨#[v],[]⟩ w':=by
 have hσ:∀b,b<bs.length->G'.σ b=G.σ b:=h'.sig;have hfr:Fr (eO ⟨G.M,G.σ,clF bs.length G.cl⟩ bs) G.M w G'.M w':=h'.fr
 have hFP:∀B,eO ⟨G.M,G.σ,clF bs.length G.cl⟩ bs B->eO G (bs++cs) B:=λB hB=>by
  rcases hB with ⟨b,ds,hb,e⟩|⟨b,j,hb⟩|⟨b,x,hb,e⟩
  .exact .inl ⟨b,ds,bn cs hb,e⟩
  .obtain ⟨b',j',e,_,h1⟩:=fm (n:=bs.length) (cl:=G.cl) (p:=.bx b j) hb;exact .inr (.inl ⟨b',j',h1⟩)
  .exact .inr (.inr ⟨b,x,bW cs hb,e⟩)
 have hmine:∀B,(eO ⟨G.M,G.σ,clF bs.length G.cl⟩ bs B\/w.heap.size<=B)->(eO G (bs++cs) B\/w.heap.size<=B):=λB hB=>hB.imp (hFP B) id
 --what is behind is apart
 have noC:∀b ds,¬b<bs.length->ab (bs++cs) b=some ds->¬eO ⟨G.M,G.σ,clF bs.length G.cl⟩ bs (G.σ b):=λb ds hn hb hF=>by
  rcases hF with ⟨c,es,hc,e⟩|⟨c,j,hc⟩|⟨c,x,hc,e⟩
  .have:=h.inj c b es ds (bn cs hc) hb e;have:=aC hc;omega
  .obtain ⟨b',j',_,_,h1⟩:=fm (n:=bs.length) (cl:=G.cl) (p:=.bx c j) hc;exact h.clbox _ _ h1 b ds hb rfl
  .have h1:=(h.sp.ob _ _ (.inl ⟨c,x,bW cs hc,e,rfl⟩)).1;obtain⟨vs,T,h2,_⟩:=h.box b ds hb;have h2:w.heap[G.σ b]? =some (.cells vs T (0,0)):=h2;exact x.Cy (h2.symm.trans h1)
 have noCl:∀b j B,¬b<bs.length->G.cl (.bx b j)=some B->¬eO ⟨G.M,G.σ,clF bs.length G.cl⟩ bs B:=λb j B hn hb hF=>by
  rcases hF with ⟨c,es,hc,e⟩|⟨c,j',hc⟩|⟨c,x,hc,e⟩
  .exact h.clbox _ B hb c es (bn cs hc) e
  .obtain ⟨b',j'',e,hlt,h1⟩:=fm (n:=bs.length) (cl:=G.cl) (p:=.bx c j') hc;have:=h.clinj _ _ B hb h1;cases this;exact hn hlt
  .exact (h.sp.ob B _ (.inl ⟨c,x,bW cs hc,e,rfl⟩)).2.1 _ hb
 have noL:∀b x,¬b<bs.length->ag (bs++cs) b=some x->¬eO ⟨G.M,G.σ,clF bs.length G.cl⟩ bs (G.σ b):=λb x hn hb hF=>by
  obtain⟨h1,h2,_⟩:=h.sp.ob _ _ (.inl ⟨b,x,hb,rfl,rfl⟩);rcases hF with ⟨c,es,hc,e⟩|⟨c,j',hc⟩|⟨c,y,hc,e⟩
  .obtain ⟨vs,T,h3,_⟩:=h.box c es (bn cs hc);have h3:w.heap[G.σ c]? =some (.cells vs T (0,0)):=h3;rw[show G.σ c=G.σ b from e] at h3;exact x.Cy (h3.symm.trans h1)
  .obtain ⟨b',j'',_,_,h3⟩:=fm (n:=bs.length) (cl:=G.cl) (p:=.bx c j') hc;exact h2 _ h3
  .have:=h.sp.inj c b y x (bW cs hc) hb e;have:=aW hc;omega
 have hlen:(own++cs).length=(bs++cs).length:=by simp[hol]
 have hbk:∀b ds,¬b<bs.length->ab (own++cs) b=some ds->ab (bs++cs) b=some ds:=λb ds hn hb=>by
  rw[jh,if_neg (by omega)] at hb
  rw[jh,if_neg hn,<-hol];exact hb
 have hfk:∀b ds,b<bs.length->ab (own++cs) b=some ds->ab own b=some ds:=λb ds hn hb=>by
  rw[jh,if_pos (by omega)] at hb;exact hb
 have hlk:∀b x,¬b<bs.length->ag (own++cs) b=some x->ag (bs++cs) b=some x:=λb x hn hb=>by
  rw[ky,if_neg (by omega)] at hb
  rw[ky,if_neg hn,<-hol];exact hb
 have hlf:∀b x,b<bs.length->ag (own++cs) b=some x->ag own b=some x:=λb x hn hb=>by
  rw[ky,if_pos (by omega)] at hb;exact hb
 have hnew:∀q B,G'.cl q=some B->eO ⟨G.M,G.σ,clF bs.length G.cl⟩ bs B\/w.heap.size<=B:=λq B hB=>(h'.cllt q B hB).2
 have hcl:∀p B,(λp:Pl=>match p with|.sl t=>G'.cl (.sl t)|.bx b j=>if b<bs.length then G'.cl (.bx b j) else G.cl (.bx b j)) p=some B->
   (G'.cl p=some B/\∀b j,p=.bx b j->b<bs.length)\/∃b j,p=.bx b j/\¬b<bs.length/\G.cl (.bx b j)=some B:=λp B hp=>by
  cases p with
  |sl t=>exact .inl ⟨hp,λb j e=>by cases e⟩
  |bx b j=>
   simp only at hp;split at hp
   .rename_i hb;exact .inl ⟨hp,λb' j' e=>by cases e;exact hb⟩
   .rename_i hb;exact .inr ⟨b,j,rfl,hb,hp⟩
 have hat:∀p x,(⟨[(0,r)],own++cs,(bs++cs).length⟩:St).at p=some x->((⟨[(0,r)],own,bs.length⟩:St).at p=some x/\(∀b j,p=.bx b j->b<bs.length)/\au G.σ ⟨#[v],[]⟩ w' p=au G'.σ ⟨#[v],[]⟩ w' p)\/
   (∃b j,p=.bx b j/\¬b<bs.length/\(⟨[],bs++cs,lo⟩:St).at (.bx b j)=some x/\au G.σ ⟨#[v],[]⟩ w' (.bx b j)=au G.σ a w (.bx b j)):=λp x hp=>by
  cases p with
  |sl t=>exact .inl ⟨hp,(λb j e=>by cases e),rfl⟩
  |bx b j=>
   simp only[St.at] at hp
   cases hb:ab (own++cs) b with
   |none=>rw[hb] at hp;cases hp
   |some ds=>
    rw[hb] at hp
    by_cases hn:b<bs.length
    .refine .inl ⟨by simp only[St.at,hfk b ds hn hb];exact hp,(λb' j' e=>by cases e;exact hn),?_⟩
     simp only[au,hσ b hn]
    .have hb':=hbk b ds hn hb;refine .inr ⟨b,j,rfl,hn,by simp only[St.at,hb'];exact hp,?_⟩
     simp only[au];rw[bX (hfr.heap _ (h.blt hb') (noC b ds hn hb'))]
 refine⟨⟨G'.M,G.σ,λp=>match p with|.sl t=>G'.cl (.sl t)|.bx b j=>if b<bs.length then G'.cl (.bx b j) else G.cl (.bx b j)⟩,
  ⟨hfr.os,hfr.tape,hfr.output,hfr.size,hfr.le,λB hB hn=>hfr.heap B hB (λk=>hn (hFP B k)),λB hB hn=>hfr.mem B hB (λk=>hn (hFP B k))⟩,h'.ok,rfl,λp x hp=>?_,λb j x hp=>?_,λb ds hb=>?_,λb ds hb=>?_,λb b' ds ds' hb hb' e=>?_,λp z l hp=>?_,λp q B hp hq=>?_,λp B hB b ds hb=>?_,λp B hB=>?_,rfl,by show (bs++cs).length<=(own++cs).length;omega,λ_ _=>rfl,?_⟩
 .rcases hat p x hp with ⟨h1,_,h2⟩|⟨b,j,rfl,_,h1,h2⟩
  .rw [h2];exact(h'.val p x h1).mono (Hp.le_refl _) (by simp) (λb hb=>(hσ b (by rw[<-hol];exact hb)).symm)
  .rw [h2,show (⟨[(0,r)],own++cs,(bs++cs).length⟩:St).bs.length=(bs++cs).length from hlen];exact(h.val _ _ h1).mono hfr.le (zG _) (λ_ _=>rfl)
 .rcases hat _ x hp with ⟨h1,_,h2⟩|⟨b',j',e,_,h1,h2⟩
  .rw [h2];exact h'.one _ _ _ h1
  .cases e;rw[h2];exact h.one _ _ _ h1
 .by_cases hn:b<bs.length
  .have:=h'.box b ds (hfk b ds hn hb);simp only[hσ b hn] at this;exact this
  .have hb':=hbk b ds hn hb;obtain⟨vs,T,h1,h2⟩:=h.box b ds hb';exact⟨vs,T,(hfr.heap _ (h.blt hb') (noC b ds hn hb')).trans h1,h2⟩
 .by_cases hn:b<bs.length
  .have:=h'.bmem b ds (hfk b ds hn hb);simp only[hσ b hn] at this;exact⟨this.1,hmine _ this.2⟩
  .have hb':=hbk b ds hn hb;exact⟨λo=>(hfr.mem _ (h.blt hb') (noC b ds hn hb') o).trans ((h.bmem b ds hb').1 o),.inl (.inl ⟨b,ds,hb',rfl⟩)⟩
 .have key:∀c c' es es',c<bs.length->¬c'<bs.length->ab (own++cs) c=some es->ab (own++cs) c'=some es'->G.σ c=G.σ c'->False:=λc c' es es' h1 h2 h3 h4 h5=>by
   have h6:=(h'.bmem c es (hfk c es h1 h3)).2;rw[hσ c h1,h5] at h6;have h7:=hbk c' es' h2 h4;rcases h6 with h6|h6
   .exact noC c' es' h2 h7 h6
   .have:w.heap.size<=G.σ c':=h6;have h8:G.σ c'<w.heap.size:=h.blt h7;omega
  by_cases hn:b<bs.length
  .by_cases hn':b'<bs.length
   .exact h'.inj b b' ds ds' (hfk b ds hn hb) (hfk b' ds' hn' hb') (by rw[hσ b hn,hσ b' hn'];exact e)
   .exact (key b b' ds ds' hn hn' hb hb' e).elim
  .by_cases hn':b'<bs.length
   .exact (key b' b ds' ds hn' hn hb' hb e.symm).elim
   .exact h.inj b b' ds ds' (hbk b ds hn hb) (hbk b' ds' hn' hb') e
 .rcases hat p _ hp with ⟨h1,hp2,h2⟩|⟨b,j,rfl,hn,h1,h2⟩
  .obtain ⟨ad,k,h3,h4,h5⟩:=h'.own p z l h1;refine⟨ad,k,h2.trans h3,h4,?_⟩;rcases h5 with h5|⟨B,hB,h6,h7⟩
   .exact .inl h5
   .refine .inr ⟨B,?_,h6,h7.lt,h7.cells,h7.free,hmine _ h7.mine⟩
    cases p with
    |sl t=>exact hB
    |bx b j=>simp only[if_pos (hp2 b j rfl)];exact hB
  .obtain ⟨ad,k,h3,h4,h5⟩:=h.own _ _ _ h1;refine⟨ad,k,h2.trans h3,h4,?_⟩;rcases h5 with h5|⟨B,hB,h6,h7⟩
   .exact .inl h5
   .have hlt:=(h.cllt _ B hB).1;have hnF:=noCl b j B hn hB;obtain⟨vs,T,h8,h9⟩:=h7.cells;exact .inr ⟨B,by simp only[if_neg hn];exact hB,h6,h7.lt,⟨vs,T,(hfr.heap B hlt hnF).trans h8,h9⟩,λo ho=>(hfr.mem B hlt hnF o).trans (h7.free o ho),.inl (.inr (.inl ⟨b,j,hB⟩))⟩
 .have key:∀p' b j,G'.cl p'=some B->¬b<bs.length->G.cl (.bx b j)=some B->False:=λp' b j h1 h2 h3=>by
   rcases hnew p' B h1 with h4|h4
   .exact noCl b j B h2 h3 h4
   .have h5:B<w.heap.size:=(h.cllt _ B h3).1;omega
  rcases hcl p B hp with ⟨h1,_⟩|⟨b,j,rfl,hn,h1⟩
  .rcases hcl q B hq with ⟨h2,_⟩|⟨b',j',rfl,hn',h2⟩
   .exact h'.clinj _ _ B h1 h2
   .exact (key _ _ _ h1 hn' h2).elim
  .rcases hcl q B hq with ⟨h2,_⟩|⟨b',j',rfl,hn',h2⟩
   .exact (key _ _ _ h2 hn h1).elim
   .exact h.clinj _ _ B h1 h2
 .rcases hcl p B hB with ⟨h1,_⟩|⟨b',j',rfl,hn',h1⟩
  .by_cases hn:b<bs.length
   .have:=h'.clbox p B h1 b ds (hfk b ds hn hb)
    rwa [hσ b hn] at this
   .intro e;have e':G.σ b=B:=e;have hb':=hbk b ds hn hb;rcases hnew p B h1 with h4|h4
    .exact noC b ds hn hb' (e'▸h4)
    .have h5:G.σ b<w.heap.size:=h.blt hb';omega
  .by_cases hn:b<bs.length
   .intro e;have e':G.σ b=B:=e;have h6:=(h'.bmem b ds (hfk b ds hn hb)).2;rw[hσ b hn,e'] at h6;rcases h6 with h6|h6
    .exact noCl b' j' B hn' h1 h6
    .have h5:B<w.heap.size:=(h.cllt _ B h1).1;have:w.heap.size<=B:=h6;omega
   .exact h.clbox _ B h1 b ds (hbk b ds hn hb)
 .rcases hcl p B hB with ⟨h1,_⟩|⟨b',j',rfl,hn',h1⟩
  .exact ⟨(h'.cllt p B h1).1,hmine B (hnew p B h1)⟩
  .exact ⟨ZV (h.cllt _ B h1).1 hfr.size,.inl (.inr (.inl ⟨b',j',h1⟩))⟩
 .refine ⟨λB o hs=>?_,λb x hb=>?_,λb b' x x' hb hb' e=>?_,[],rfl,.nil⟩
  .rcases hs with ⟨b,x,hb,e,ho⟩|⟨hm,_⟩
   .have e':G.σ b=B:=e
    by_cases hn:b<bs.length
    .obtain ⟨h1,h2,h3⟩:=h'.sp.ob B o (.inl ⟨b,x,hlf b x hn hb,(hσ b hn).trans e',ho⟩);refine⟨h1,λp hp=>?_,hmine B h3⟩;rcases hcl p B hp with ⟨h4,_⟩|⟨c,j,rfl,hn',h4⟩
     .exact h2 _ h4
     .rcases h3 with h5|h5
      .exact noCl c j B hn' h4 h5
      .have h6:B<w.heap.size:=(h.cllt _ B h4).1;have:w.heap.size<=B:=h5;omega
    .have hb':=hlk b x hn hb;obtain⟨h1,h2,_⟩:=h.sp.ob B o (.inl ⟨b,x,hb',e',ho⟩);have hlt:B<w.heap.size:=(zh.1 h1).1;have hnF:=noL b x hn hb';rw[e'] at hnF;refine⟨(hfr.heap B hlt hnF).trans h1,λp hp=>?_,.inl (.inr (.inr ⟨b,x,hb',e'⟩))⟩;rcases hcl p B hp with ⟨h4,_⟩|⟨c,j,rfl,hn',h4⟩
     .rcases hnew p B h4 with h5|h5
      .exact hnF h5
      .omega
     .exact h2 _ h4
   .cases hm
  .by_cases hn:b<bs.length
   .obtain ⟨h1,h2,h3⟩:=h'.sp.base b x (hlf b x hn hb);exact⟨h1,h2,λc hc=>(hσ c (by omega)).symm.trans (h3 c hc)⟩
   .obtain ⟨h1,h2,h3⟩:=h.sp.base b x (hlk b x hn hb);exact⟨Hp.le_trans h1 hfr.le,h2,h3⟩
  .have e':G.σ b=G.σ b':=e
   have key:∀c c' y y',c<bs.length->¬c'<bs.length->ag (own++cs) c=some y->ag (own++cs) c'=some y'->G.σ c=G.σ c'->False:=λc c' y y' h1 h2 h3 h4 h5=>by
    have h6:=(h'.sp.ob _ _ (.inl ⟨c,y,hlf c y h1 h3,rfl,rfl⟩)).2.2;rw[hσ c h1,h5] at h6;have h7:=hlk c' y' h2 h4;rcases h6 with h6|h6
    .exact noL c' y' h2 h7 h6
    .have h8:=(zh.1 (h.sp.ob _ _ (.inl ⟨c',y',h7,rfl,rfl⟩)).1).1;have:w.heap.size<=G.σ c':=h6;have h8:G.σ c'<w.heap.size:=h8;omega
   by_cases hn:b<bs.length
   .by_cases hn':b'<bs.length
    .exact h'.sp.inj b b' x x' (hlf b x hn hb) (hlf b' x' hn' hb') (by rw[hσ b hn,hσ b' hn'];exact e')
    .exact (key b b' x x' hn hn' hb hb' e').elim
   .by_cases hn':b'<bs.length
    .exact (key b' b x' x hn' hn hb' hb e'.symm).elim
    .exact h.sp.inj b b' x x' (hlk b x hn hb) (hlk b' x' hn' hb') e'
end
theorem pd.frame{P:Program}{b:Nat}{y:List AV}{bs:List Box}{Q:AV->List Box->Prop}(h:pd P b y bs Q)(hlt:ai bs.length bs=true)(hy:∀v∈y,v.lt bs.length=true)(hQ:∀r bs',Q r bs'->r.lt bs.length=true/\ai bs.length (bs'.take bs.length)=true)(cs:List Box):
  pd P b y (bs++cs) λr bs'=>∃own,Q r own/\bs'=own.take bs.length++cs:=by
 intro E G a0 w args lo hpre hal hav;have h0:=hpre.hide hlt ⟨#[],[]⟩ rfl;obtain⟨f,tmps,assign,body,hyr,hround⟩:=h _ _ _ w args _ h0 hal (λj hj v hv=>(hav j hj v hv).lt (hy _ (zc hj)));refine⟨f,tmps,assign,body,hyr,λrd n=>(hround rd n).mono ?_⟩;rintro e w' ⟨v,r,bs',G',rfl,hq,h'⟩;obtain⟨hr,hb'⟩:=hQ r bs' hq;have hle:bs.length<=bs'.length:=h'.len;obtain⟨G2,h2⟩:=aE.cut ⟨[(0,r)],bs',bs.length⟩ bs.length (zG _) hle (by simp only[l9,hr];rfl) hb' _ _ _ _ h'
 obtain⟨G3,h3⟩:=hpre.NU (by simp;omega) h2
 exact⟨v,r,_,G3,rfl,⟨bs',hq,rfl⟩,h3⟩
end Go.AM
namespace Go.AM
open Go.CK Go.RowKit
def xW(P:Program)(gf:FuncId)(lb:List AV)(xs:List (List AV)):Prop:=
 ∀(b:Nat) (bs:List Box) (J:List (List AV)->List Box->Prop) (Jx:List Box->Prop),b<bs.length->(∀pre bs',J pre bs'->bs'.length=bs.length/\ai bs.length bs'=true)->(∀bs',Jx bs'->bs'.length=bs.length/\ai bs.length bs'=true)->
  (∀pre y rest bs' cs,pre++y::rest=xs->J pre bs'->pd P b y (bs'++cs) λr bs2=>∃own,bs2=own++cs/\((r=.bool true/\J (pre++[y]) own)\/(r=.bool false/\Jx own)))->J [] bs->
  Sem P gf (.yl b::lb) bs λ_ bs'=>J xs bs'\/Jx bs'
theorem GC{m n:Nat}(hmn:m<=n){x:AV}(h:x.lt0 m=true):x.lt0 n=true:=by
 cases x<;>first|exact h|(simp only[AV.lt0,decide_eq_true_eq] at h|-;omega)
theorem CC{m n:Nat}(hmn:m<=n){x:AV}(h:x.lt1 m=true):x.lt1 n=true:=by
 cases x with
 |fn f xs ys=>
  simp only[AV.lt1,zD,zS] at h|-
  exact⟨λy hy=>GC hmn (h.1 y hy),λy hy=>GC hmn (h.2 y hy)⟩
 |_=>simp only[AV.lt1] at h|-;exact GC hmn h
theorem Oy{m n:Nat}(hmn:m<=n){x:AV}(h:x.lt2 m=true):x.lt2 n=true:=by
 cases x with
 |agg cs=>simp only[AV.lt2,zS] at h|-;exact λy hy=>CC hmn (h y hy)
 |_=>simp only[AV.lt2] at h|-;exact CC hmn h
theorem K9{m n:Nat}(hmn:m<=n){x:AV}(h:x.lt m=true):x.lt n=true:=by
 cases x with
 |agg cs=>simp only[AV.lt,zS] at h|-;exact λy hy=>CC hmn (h y hy)
 |tup cs=>simp only[AV.lt,zS] at h|-;exact λy hy=>Oy hmn (h y hy)
 |ept cs=>rfl
 |sl o l=>rfl
 |_=>simp only[AV.lt] at h|-;exact CC hmn h
theorem bt{m n:Nat}(hmn:m<=n):∀{bs:List Box},ai m bs=true->ai n bs=true
 |[],_=>rfl
 |.cells cs::r,h=>by
  simp only[ai,zD,zS] at h|-
  exact⟨λx hx=>K9 hmn (h.1 x hx),bt hmn h.2⟩
 |.dead::r,h=>by simp only[ai] at h|-;exact bt hmn h
 |.loop x::r,h=>by simp only[ai] at h|-;exact bt hmn h
 |.mp x::r,h=>by simp only[ai] at h|-;exact bt hmn h
 |.mq x c::r,h=>by simp only[ai] at h|-;exact bt hmn h
 |.row ds::r,h=>by
  simp only[ai,zD,zS] at h|-;exact⟨λx hx=>K9 hmn (h.1 x hx),bt hmn h.2⟩
theorem bd{n:Nat}:∀{bs cs:List Box},ai n bs=true->ai n cs=true->ai n (bs++cs)=true
 |[],_,_,h=>h
 |.cells ds::r,cs,h,k=>by
  simp only[ai,zD,ze] at h|-
  exact⟨h.1,bd h.2 k⟩
 |.dead::r,cs,h,k=>by simp only[ai,ze] at h|-;exact bd h k
 |.loop x::r,cs,h,k=>by simp only[ai,ze] at h|-;exact bd h k
 |.mp x::r,cs,h,k=>by simp only[ai,ze] at h|-;exact bd h k
 |.mq x c::r,cs,h,k=>by simp only[ai,ze] at h|-;exact bd h k
 |.row ds::r,cs,h,k=>by
  simp only[ai,zD,ze] at h|-;exact⟨h.1,bd h.2 k⟩
theorem nq{own:List Box}(h:ai own.length own=true)(x:LB):ai (own.length+1) (own++[.loop x])=true:=bd (bt (Nat.le_succ _) h) rfl
theorem xW.use{P:Program}{gf:FuncId}{lb:List AV}{xs:List (List AV)}(hi:xW P gf lb xs)(b:Nat)(bs:List Box)(J:List (List AV)->List Box->Prop)(Jx:List Box->Prop)(hb:b<bs.length)
  (hJ:∀pre bs',J pre bs'->bs'.length=bs.length/\ai bs.length bs'=true) (hJx:∀bs',Jx bs'->bs'.length=bs.length/\ai bs.length bs'=true) (hy:∀y∈xs,∀v∈y,v.lt bs.length=true)
  (hr:∀pre y rest bs,pre++y::rest=xs->J pre bs->pd P b y bs λr bs'=>(r=.bool true/\J (pre++[y]) bs')\/(r=.bool false/\Jx bs')) (h0:J [] bs):
  Sem P gf (.yl b::lb) bs λ_ bs'=>J xs bs'\/Jx bs':=by
 refine hi b bs J Jx hb hJ hJx (λpre y rest bs' cs hxs hj=>?_) h0;obtain⟨hl,hlt⟩:=hJ pre bs' hj
 have:=(hr pre y rest bs' hxs hj).frame (by rw[hl];exact hlt) (λv hv=>by rw[hl];exact hy y (by rw[<-hxs];simp) v hv) (λr bs2 hq=>by
  rcases hq with ⟨rfl,hq⟩|⟨rfl,hq⟩
  .obtain ⟨h1,h2⟩:=hJ _ _ hq;exact⟨rfl,by rw[hl,<-h1,zz];rw[h1];exact h2⟩
  .obtain ⟨h1,h2⟩:=hJx _ hq;exact⟨rfl,by rw[hl,<-h1,zz];rw[h1];exact h2⟩) cs
 intro E G a0 w args lo h1 h2 h3;obtain⟨f,tmps,assign,body,h4,h5⟩:=this E G a0 w args lo h1 h2 h3;refine⟨f,tmps,assign,body,h4,λrd n=>(h5 rd n).mono ?_⟩;rintro e w' ⟨v,r,bs2,G',rfl,⟨own,hq,rfl⟩,h6⟩;refine⟨v,r,_,G',rfl,⟨own,?_,?_⟩,h6⟩
 .have:own.length=bs'.length:=by
   rcases hq with ⟨_,hq⟩|⟨_,hq⟩
   .rw [hl];exact(hJ _ _ hq).1
   .rw [hl];exact(hJx _ hq).1
  rw[<-this,zz]
 .exact hq
theorem ah.eqS{s t:St}(h1:s.env=t.env)(h2:s.bs=t.bs)(h3:s.lo=t.lo):ah s t:=by
 obtain⟨a,b,c⟩:=s;obtain⟨a',b',c'⟩:=t;simp only at h1 h2 h3;subst h1 h2 h3;exact⟨aE.refl _⟩
end Go.AM
