/-
  Texts of this bj joined (wip/gen/bundle.py),those declarations only that are needed:Vars VarsB RcUni RcAsk. By an AI agent.
-/
import Derived.Test.YtcjfkbdbcgmomaaGreatDoorBar
set_option linter.unusedSimpArgs false
set_option linter.unusedVariables false
set_option maxRecDepth 100000
namespace Go.CK
open Go.AM Go.Proofs
mutual
def Tm.vs:Tm->List Int
 |.mk k n _ l=>if k=1 then [n] else if k=2 then Tm.vss l else []
def Tm.vss:List Tm->List Int
 |[]=>[]
 |t::r=>t.vs++Tm.vss r
end
def Tm.use(t:Tm):List Tm:=if t.kind=2 then t.args else []
theorem Tm.HV{t:Tm}(h:t.kind=1):t.vs=[t.num]:=by
 obtain⟨k,n,s,l⟩:=t;simp only[Tm.kind] at h;rw[Tm.vs,if_pos h];rfl
theorem Tm.GU{t:Tm}(h:¬t.kind=1):t.vs=Tm.vss t.use:=by
 obtain⟨k,n,s,l⟩:=t;simp only[Tm.kind] at h;rw[Tm.vs,if_neg h];unfold Tm.use;show _=Tm.vss (if k=2 then l else [])
 by_cases h2:k=2
 .rw [if_pos h2,if_pos h2]
 .rw [if_neg h2,if_neg h2,Tm.vss]
theorem Tm.iw:∀l m:List Tm,Tm.vss (l++m)=Tm.vss l++Tm.vss m
 |[],m=>rfl
 |t::l,m=>by rw[ze,Tm.vss,Tm.vss,Tm.iw l m,zg]
theorem Tm.lQ{l:List Tm}{j:Nat}{x:Tm}(h:l[j]? =some x):Tm.vss (l.take (j+1))=Tm.vss (l.take j)++x.vs:=by
 obtain⟨hj,rfl⟩:=zB.1 h;rw[List.take_succ_eq_append_getElem hj,Tm.iw];simp[Tm.vss]
theorem Tm.jN{l:List Tm}{j:Nat}{x:Tm}(h:l[j]? =some x):Tm.vss l=Tm.vss (l.take j)++(x.vs++Tm.vss (l.drop (j+1))):=by
 rw[<-zg,<-Tm.lQ h,<-Tm.iw,List.take_append_drop]
def ys1(l:List Int):List (List AV):=l.map λn=>[aK n]
theorem nY(l m:List Int):ys1 (l++m)=ys1 l++ys1 m:=by simp[ys1]
theorem Cq{a:Tm}{x:Tm}(h:x∈a.use):x∈a.args:=by
 unfold Tm.use at h;split at h
 .exact h
 .cases h
theorem Gz{a:Tm}:Fun Tryz.prog 209 [a.avw] (slA Tm.av a.use):=by
 refine Fun.of (wG (by simp) ?_) rfl rfl
 conv=>whnf
 repeat' (first|(refine gC ?_;refine ae.dec (λhc=>?_) (λhc=>?_))|refine ak.nrm ?_)<;>conv=>whnf
 all_goals simp[Tm.use, *]
theorem gj{a:Tm}:Fun Tryz.prog 212 [a.avw] (slA Tm.av a.use):=by
 refine Fun.of (ke (by simp) ?_) rfl rfl
 conv=>whnf
 repeat' (first|(refine gC ?_;refine ae.dec (λhc=>?_) (λhc=>?_))|refine ak.nrm ?_)<;>conv=>whnf
 all_goals simp[Tm.use, *]
structure YC(P:Program)(b n0:Nat)(xs:List (List AV))(J:List (List AV)->List Box->Prop)(Jx:List Box->Prop):Prop where
 hb:b<n0
 hJ:∀pre bs',J pre bs'->bs'.length=n0/\al n0 bs'=true
 hJx:∀bs',Jx bs'->bs'.length=n0/\al n0 bs'=true
 hr:∀pre y rest bs' cs,pre++y::rest=xs->J pre bs'->mK P b y (bs'++cs) λr bs2=>∃own,bs2=own++cs/\((r=.bool true/\J (pre++[y]) own)\/(r=.bool false/\Jx own))
theorem bl2{n0:Nat}{own cs:List Box}(h:own.length=n0/\al n0 own=true)(hcs:al (n0+cs.length) cs=true):al (own++cs).length (own++cs)=true:=by
 rw[zC,h.1];exact aT (aY (Zw _ _) h.2) hcs
theorem FE(a:Tm):∀{b n0:Nat} {xs:List (List AV)} {J:List (List AV)->List Box->Prop} {Jx:List Box->Prop} (hC:YC Tryz.prog b n0 xs J Jx) (pre rest:List (List AV)) (bs cs:List Box),pre++(ys1 a.vs++rest)=xs->J pre bs->al (n0+cs.length) cs=true->
  AM.Sem Tryz.prog 183 [a.avw,.yl b] (bs++cs) λr bs'=>∃own,bs'=own++cs/\((r=.bool true/\J (pre++ys1 a.vs) own)\/(r=.bool false/\Jx own)):=by
 induction a using Tm.dO with
 |h k n s l ih=>
 intro b n0 xs J Jx hC pre rest bs cs hx hj hcs;generalize ha:Tm.mk k n s l=a at hx|-
 have ih:∀t∈a.args,∀{b n0:Nat} {xs:List (List AV)} {J:List (List AV)->List Box->Prop} {Jx:List Box->Prop} (hC:YC Tryz.prog b n0 xs J Jx) (pre rest:List (List AV)) (bs cs:List Box),pre++(ys1 t.vs++rest)=xs->J pre bs->al (n0+cs.length) cs=true->
  AM.Sem Tryz.prog 183 [t.avw,.yl b] (bs++cs) λr bs'=>∃own,bs'=own++cs/\((r=.bool true/\J (pre++ys1 t.vs) own)\/(r=.bool false/\Jx own)):=by subst ha;exact ih
 clear ha;have hbl:=hC.hJ _ _ hj;refine Sem.assume λhg0 _=>?_;have hg:=(re (hg0 a.avw (by simp) rfl)).2.1
 have hgu:a.use.length<=4294967296:=by unfold Tm.use;split<;>simp[hg]
 refine uo (by simp) ?_
 conv=>whnf
 repeat' (first|refine gF (ag.fn (Gz) ?_)|(refine gC ?_;refine ae.dec (λhc=>?_) (λhc=>?_))|refine gL (.map ?_)|refine gB (.last ?_))<;>conv=>whnf
 .rw [Tm.HV hc] at hx|-;have hY:=hC.hr pre [aK a.num] rest bs (cs++[.cells [.int .i64 a.kind,.int .i64 a.num,.str a.name,.sl .no (a.args.map Tm.av)]]) hx hj;rw[<-zg] at hY;refine tT.of hY ?_;rintro r bs' ⟨own,rfl,h⟩
  have ho:own.length=n0/\al n0 own=true:=by
   rcases h with ⟨_,h⟩|⟨_,h⟩
   .exact hC.hJ _ _ h
   .exact hC.hJx _ h
  rcases h with ⟨rfl,h⟩|⟨rfl,h⟩
  .conv=>whnf
   skip;refine ak.oU (own:=own++cs) (zg _ _ _).symm (show (bs++cs).length<=(own++cs).length by simp;omega) rfl (bl2 ho hcs) ?_
   exact ak.slot ⟨own,rfl,.inl ⟨rfl,h⟩⟩
  .conv=>whnf
   skip;refine ak.oU (own:=own++cs) (zg _ _ _).symm (show (bs++cs).length<=(own++cs).length by simp;omega) rfl (bl2 ho hcs) ?_
   exact ak.slot ⟨own,rfl,.inr ⟨rfl,h⟩⟩
 .rw [Tm.GU hc] at hx|-;refine az.by (fb:=false) (λ_ (q:Nat×List Box)=>⟨[(1,.yl b),(15,slA Tm.av a.use),(16,.int .i64 a.use.length),(17,.int .i64 q.1)],q.2++cs,(bs++cs).length⟩) (λq=>q.1<=a.use.length/\J (pre++ys1 (Tm.vss (a.use.take q.1))) q.2) (λq=>a.use.length-q.1) (0,bs) ⟨zJ _,by simpa[Tm.vss,ys1] using hj⟩ ?_ ?_
  .refine aq.oU (own:=bs++cs) rfl (zG _) ?_ (bl2 hbl hcs) ?_
   .simp [eo,AV.lt,AV.lt1,AV.lt0,AV.aW];have:=hC.hb;omega
   .refine aq.atS ?_ rfl rfl
    conv=>whnf
    repeat' (first|(refine gV ?_;first|refine vE ?_|refine vI ?_)|exact True.intro)<;>conv=>whnf
  .rintro ⟨j,own⟩ ⟨hj1,hj2⟩;dsimp only at hj1 hj2|-;have ho:=hC.hJ _ _ hj2
   by_cases hlt:j<a.use.length
   .obtain ⟨x,hxj⟩:∃x,a.use[j]? =some x:=⟨_,zA hlt⟩
    conv=>whnf
    repeat' (first|refine gC (gD (cI ?_))|refine gI (gT (iA ?_))|refine gB (.last ?_)|refine aA.last ?_)<;>conv=>whnf
    have hsp:=Tm.jN hxj;have htk:=Tm.lQ hxj;have hC2:=ih x (Cq (zE hxj)) hC (pre++ys1 (Tm.vss (a.use.take j))) (ys1 (Tm.vss (a.use.drop (j+1)))++rest) own (cs++[.cells [.int .i64 x.kind,.int .i64 x.num,.str x.name,.sl .no (x.args.map Tm.av)]]) (by rw[<-hx,hsp];simp[nY]) hj2 (aT (aY (by simp) hcs) rfl)
    rw[<-zg] at hC2;refine ag.raw hC2 ?_;rintro r bs' ⟨own2,rfl,⟨rfl,h⟩|⟨rfl,h⟩⟩
    .have ho2:=hC.hJ _ _ h
     conv=>whnf
     repeat' (first|(refine gC ?_;first|refine cY ?_|refine .not ?_)|refine gW (wI ?_))<;>conv=>whnf
     refine⟨(j+1,own2),⟨⟨hlt,?_⟩,by simp only;omega⟩,aq.oU (own:=own2++cs) (zg _ _ _).symm (show (bs++cs).length<=(own2++cs).length by simp;omega) ?_ (bl2 ho2 hcs) ?_⟩
     .dsimp only;rw[htk,nY,<-zg];exact h
     .simp [eo,AV.lt,AV.lt1,AV.lt0,AV.aW];have:=hC.hb;omega
     .refine aq.atS ?_ rfl rfl
      conv=>whnf
      repeat' (first|(refine gV ?_;first|refine vE ?_|refine vI ?_)|exact True.intro)<;>conv=>whnf
    .have ho2:=hC.hJx _ h
     conv=>whnf
     repeat' (refine gC ?_;first|refine cN ?_|refine .not ?_)<;>conv=>whnf
     refine ak.oU (own:=own2++cs) (zg _ _ _).symm (show (bs++cs).length<=(own2++cs).length by simp;omega) rfl (bl2 ho2 hcs) ?_
     exact ak.slot ⟨own2,rfl,.inr ⟨rfl,h⟩⟩
   .obtain rfl:j=a.use.length:=by omega
    rw[zz] at hj2
    conv=>whnf
    repeat' refine gC (gD (cJ ?_))<;>conv=>whnf
    exact ak.slot ⟨own,rfl,.inl ⟨rfl,hj2⟩⟩
theorem wY{l:List Tm}:Fun Tryz.prog 134 [slA Tm.av l] (.fn (.func 182) [] [.ept [slA Tm.av l]]):=by
 refine Fun.of (wF (by simp) ?_) rfl rfl
 conv=>whnf
 skip;refine ak.of (Fy.freeze 0 rfl rfl rfl rfl ?_)
 conv=>whnf
 rfl
theorem Dp(l:List Tm):vP Tryz.prog 182 [.ept [slA Tm.av l]] (ys1 (Tm.vss l)):=by
 intro b bs J Jx hb hJ hJx hr h0;have hC:YC Tryz.prog b bs.length (ys1 (Tm.vss l)) J Jx:=⟨hb,hJ,hJx,hr⟩;refine Sem.assume λ_ hg0=>?_;have hg:=(aU (hg0 [slA Tm.av l] (by simp) (slA Tm.av l) (by simp))).1
 refine qP (by simp) ?_
 conv=>whnf
 repeat' refine gL (.map ?_)<;>conv=>whnf
 refine az.by (fb:=false) (λ_ (q:Nat×List Box)=>⟨[(0,.yl b),(1,.ept [slA Tm.av l]),(5,.int .i64 l.length),(6,.int .i64 q.1)],q.2,bs.length⟩) (λq=>q.1<=l.length/\J (ys1 (Tm.vss (l.take q.1))) q.2) (λq=>l.length-q.1) (0,bs) ⟨zJ _,by simpa[Tm.vss,ys1] using h0⟩ (aq.eqS rfl rfl rfl) ?_
 rintro⟨j,own⟩ ⟨hj1,hj2⟩;dsimp only at hj1 hj2|-;have ho:=hC.hJ _ _ hj2
 by_cases hlt:j<l.length
 .obtain ⟨x,hxj⟩:∃x,l[j]? =some x:=⟨_,zA hlt⟩
  conv=>whnf
  repeat' (first|refine gC (gD (cI ?_))|refine gI (gT (iA ?_)))<;>conv=>whnf
  have hsp:=Tm.jN hxj;have htk:=Tm.lQ hxj;have hC2:=FE x hC (ys1 (Tm.vss (l.take j))) (ys1 (Tm.vss (l.drop (j+1)))) own [] (by rw[hsp,nY,nY]) hj2 rfl
  rw[zy] at hC2;refine ag.raw hC2 ?_;rintro r bs' ⟨own2,rfl,⟨rfl,h⟩|⟨rfl,h⟩⟩
  .have ho2:=hC.hJ _ _ h
   conv=>whnf
   repeat' (first|(refine gC ?_;first|refine cY ?_|refine .not ?_)|refine gW (wI ?_))<;>conv=>whnf
   refine⟨(j+1,own2),⟨⟨hlt,?_⟩,by simp only;omega⟩,?_⟩
   .dsimp only;rw[htk,nY];exact h
   .refine aq.atS ?_ (zy _) rfl
    conv=>whnf
    repeat' (first|(refine gV ?_;first|refine vE ?_|refine vI ?_)|exact True.intro)<;>conv=>whnf
  .conv=>whnf
   repeat' (first|(refine gC ?_;first|refine cN ?_|refine .not ?_)|refine ak.nrm ?_)<;>conv=>whnf
   refine Or.inr ?_;rw[zy];exact h
 .obtain rfl:j=l.length:=by omega
  rw[zz] at hj2
  conv=>whnf
  repeat' (first|refine gC (gD (cJ ?_))|refine ak.nrm ?_)<;>conv=>whnf
  exact Or.inl hj2
def xo(l:List Int)(n:Int):List Int:=if n∈l then l else l++[n]
def bX(l m:List Int):List Int:=m.foldl xo l
theorem mX(l m k:List Int):bX l (m++k)=bX (bX l m) k:=by simp[bX]
theorem BV(l m:List Int)(n:Int):bX l (m++[n])=xo (bX l m) n:=by simp[bX]
theorem Fw(l:List Int)(n:Int):(xo l n).length<=l.length+1:=by
 unfold xo;split<;>simp
theorem cK:∀(m l:List Int),(bX l m).length<=l.length+m.length
 |[],l=>by simp[bX]
 |n::m,l=>by
  have h1:=cK m (xo l n);have h2:=Fw l n;show (bX (xo l n) m).length<=_;simp only[zX];omega
theorem CN{l:List Int}{n:Int}(h:n∈l):xo l n=l:=if_pos h
theorem AE{l:List Int}{n:Int}(h:¬n∈l):xo l n=l++[n]:=if_neg h
def aV(l:List Int):List Int:=bX [] l
theorem wK{l:List Tm}(hl:(Tm.vss l).length<=100000):Fun Tryz.prog 133 [.fn (.func 182) [] [.ept [slA Tm.av l]]] (slA aK (aV (Tm.vss l))):=by
 refine Fun.of (wE (by simp) ?_) rfl rfl
 conv=>whnf
 skip
 refine mL.each (λn:Int=>[aK n]) (Tm.vss l) ⟨[(2,.sl .full []),(3,.ptr 0 0),(4,.ptr 2 0),(7,.fn (.func 182) [] [.ept [slA Tm.av l]])],[.cells [.sl (.own 1) []],.mp [],.cells [.mpt 1]],0⟩
  (λpre=>[.cells [.sl (.own 1) ((aV pre).map aK)],.mp (cZ (.bool true) (aV pre)),.cells [.mpt 1]]) (Dp l) (by kernel_rfl) ?_ rfl (λ_=>rfl) (λ_=>rfl) rfl (λ_=>⟨rfl,rfl⟩) ?_ ?_
 .refine aq.wZ 0 0 1 rfl (by simp) ?_
  exact aq.eqS rfl rfl rfl
 .intro x pre y rest hxs
  have hpl:(aV pre).length+1<=100000:=by
   have:=congrArg List.length hxs;have h2:=cK pre [];simp at this;unfold aV;simp at h2;omega
  have hfs:aV (pre++[y])=xo (aV pre) y:=BV [] pre y
  conv=>whnf
  repeat' (first|(refine gC ?_;first|refine cY ?_|refine cN ?_|refine .not ?_)|refine gN (nS ?_)|refine gA (aP ?_)|refine gMp (mA ?_)|(refine gMs ?_;refine mS (λhc=>?_) (λhc=>?_)))<;>conv=>whnf
  .rw [CN hc] at hfs;refine p8.by ?_ rfl rfl rfl
   conv=>whnf
   repeat' (first|refine xB ?_|(refine BxN.mk ?_ ?_;(focus (simp[hfs];done)))|exact True.intro)<;>conv=>whnf
  .rw [AE hc] at hfs;refine p8.by ?_ rfl rfl rfl
   conv=>whnf
   repeat' (first|refine xB ?_|(refine BxN.mk ?_ ?_;(focus (simp[hfs,oD,St.ev];done)))|exact True.intro)<;>conv=>whnf
 .conv=>whnf
  repeat' refine ak.nrm ?_<;>conv=>whnf
end Go.CK
namespace Go.CK
open Go.AM Go.Proofs
theorem iX{x:At}(hl:(Tm.vss x.args).length<=100000):Fun Tryz.prog 71 [x.av] (slA aK (aV (Tm.vss x.args))):=by
 refine Fun.of (po (by simp) ?_) rfl rfl
 conv=>whnf
 repeat' (first|(refine gF ?_;first|refine ag.fn (wY) ?_|refine ag.fn (wK hl) ?_)|refine ak.nrm ?_)<;>conv=>whnf
theorem Ff{t:Tm}:Fun Tryz.prog 134 [.sl .no [t.avw]] (.fn (.func 182) [] [.ept [.sl .no [t.avw]]]):=by
 have:=wY (l:=[t]);simp only[slA,zQ,List.map_nil,Tm.tJ] at this;exact this
theorem Ew{t:Tm}(hl:t.vs.length<=100000):Fun Tryz.prog 133 [.fn (.func 182) [] [.ept [.sl .no [t.avw]]]] (slA aK (aV t.vs)):=by
 have:=wK (l:=[t]) (by simpa[Tm.vss] using hl)
 simp only[slA,zQ,List.map_nil,Tm.tJ,Tm.vss,zy] at this;exact this
theorem vS{t:Tm}(hl:t.vs.length<=100000):Fun Tryz.prog 73 [t.avw] (slA aK (aV t.vs)):=by
 refine Fun.of (wH (by simp) ?_) rfl rfl
 conv=>whnf
 repeat' (first|(refine gF ?_;first|refine ag.fn (Ff) ?_|refine ag.fn (Ew hl) ?_)|refine ak.nrm ?_)<;>conv=>whnf
theorem Ci{k n:Nat}{l:List Int}:al n [bh (AV.int .i64) 1 k l]=true:=by
 simp only[bh,al,Bool.and_true,zT];exact λx hx=>(wA.Ee l _ n x hx).2
theorem aq.refl(s:St):aq s s:=⟨aG.refl s⟩
def Iq(own:List Box)(l:List Int)(r:AV)(bs':List Box):Prop:=∃(J:List Box) (k':Nat),l.length<=k'/\al (own.length+J.length) J=true/\r=.bsl (own.length+J.length) l.length k'/\bs'=own++(J++[bh (AV.int .i64) 1 k' l])
theorem Ec(a:Tm):∀(own:List Box) (l:List Int) (k:Nat),al own.length own=true->l.length<=k->l.length+a.vs.length<=1000000->
  AM.Sem Tryz.prog 204 [.bsl own.length l.length k,a.avw] (own++[bh (AV.int .i64) 1 k l]) (Iq own (bX l a.vs)):=by
 induction a using Tm.dO with
 |h k n s l ih=>
 intro own l0 k0 ho hk0 hb;generalize ha:Tm.mk k n s l=a at hb|-
 have ih:∀t∈a.args,∀(own:List Box) (l:List Int) (k:Nat),al own.length own=true->l.length<=k->l.length+t.vs.length<=1000000->
  AM.Sem Tryz.prog 204 [.bsl own.length l.length k,t.avw] (own++[bh (AV.int .i64) 1 k l]) (Iq own (bX l t.vs)):=by subst ha;exact ih
 clear ha;refine Sem.assume λhg0 _=>?_;have hg:=(re (hg0 a.avw (by simp) rfl)).2.1
 have hgu:a.use.length<=4294967296:=by unfold Tm.use;split<;>simp[hg]
 refine jJ (by simp) ?_
 conv=>whnf
 repeat' (first|refine gF (ag.fn (gj) ?_)|(refine gC ?_;first|refine cN ?_|(refine gD ?_;first|refine cI ?_|refine cJ ?_)|refine ae.dec (λhc=>?_) (λhc=>?_))|refine gB (.last ?_))<;>conv=>whnf
 .have hv:=Tm.HV hc;have hu:a.use.length=0:=by unfold Tm.use;rw[if_neg (by omega)];rfl
  refine ag.view (EW (l:=l0) (n:=a.num)) rfl ?_ ?_
  .refine .cons (.row (l:=l0) wA ?_ rfl) (.cons (.same rfl) .nil);simp[bh]
  conv=>whnf
  repeat' (first|refine gF (ag.fn (gj) ?_)|(refine gC ?_;first|refine .not ?_|refine gD (cI ?_)|refine ae.dec (λhc=>?_) (λhc=>?_))|refine gB (.last ?_))<;>conv=>whnf
  .rw [hv,show bX l0 [a.num]=l0 from CN hc];refine az.count (fb:=false) 0 (λst_ _=>st_) (λ_=>True) trivial (aq.refl _) (λj hj=>by omega) (λ_=>?_)
   conv=>whnf
   repeat' (first|refine gC (gD (cJ ?_))|refine gL (.map ?_))<;>conv=>whnf
   refine ak.oU (own:=own++[bh (AV.int .i64) 1 k0 l0]) rfl (zG _) ?_ ?_ ?_
   .simp [eo,AV.lt,AV.lt1,AV.lt0,AV.aW]
   .exact aT (aY (by simp) ho) Ci
   .exact ak.slot ⟨[],k0,hk0,rfl,rfl,rfl⟩
  .refine uC.one (l:=l0) wA (by simp[bh]) rfl hk0 (by omega) (λk2 hk2=>?_)
   rw[D7]
   conv=>whnf
   skip;refine kD.of (cs:=[.int .i64 a.kind,.int .i64 a.num,.str a.name,.sl .no (a.args.map Tm.av)]) (by simp[aa,Box.cs?]) ?_
   conv=>whnf
   repeat' refine gF (ag.fn (gj) ?_)<;>conv=>whnf
   rw[hv,show bX l0 [a.num]=l0++[a.num] from AE hc];refine az.count (fb:=false) 0 (λst_ _=>st_) (λ_=>True) trivial (aq.refl _) (λj hj=>by omega) (λ_=>?_)
   conv=>whnf
   repeat' (first|refine gC (gD (cJ ?_))|refine gL (.map ?_))<;>conv=>whnf
   refine ak.slot ⟨[.dead,.cells [.int .i64 a.kind,.int .i64 a.num,.str a.name,.sl .no (a.args.map Tm.av)]],k2,hk2,rfl,?_,?_⟩
   .simp [St.get,au]
   .simp
 .refine az.by (fb:=false) (λst_ (q:Nat×Nat×List Box)=>⟨[(0,.bsl (own.length+q.2.2.length) (bX (l0) (Tm.vss (a.use.take q.1))).length q.2.1),(5,slA Tm.av a.use),(6,.int .i64 q.1)],own++(q.2.2++[bh (AV.int .i64) 1 q.2.1 (bX (l0) (Tm.vss (a.use.take q.1)))]),st_.lo⟩) (λq=>q.1<=a.use.length/\(bX (l0) (Tm.vss (a.use.take q.1))).length<=q.2.1/\al (own.length+q.2.2.length) q.2.2=true) (λq=>a.use.length-q.1) (0,k0,[]) ⟨zJ _,by simp[Tm.vss,bX, *],rfl⟩ ?_ ?_
  .refine aq.oU (own:=own++[bh (AV.int .i64) 1 k0 l0]) rfl (zG _) ?_ ?_ ?_
   .simp [eo,AV.lt,AV.lt1,AV.lt0,AV.aW]
   .exact aT (aY (by simp) ho) Ci
   .refine aq.atS ?_ rfl rfl
    conv=>whnf
    repeat' (first|(refine gV ?_;first|refine vE ?_|refine vI ?_|(refine WkN.norm ?_ ?_;(focus (simp[AV.norm,AV.aj,Tm.vss,bX];done))))|exact True.intro)<;>conv=>whnf
  .rintro ⟨j,k1,J⟩ ⟨hj1,hj2,hJ⟩;dsimp only at hj1 hj2 hJ|-
   by_cases hlt:j<a.use.length
   .obtain ⟨x,hxj⟩:∃x,a.use[j]? =some x:=⟨_,zA hlt⟩;have hsp:=Tm.jN hxj;have htk:=Tm.lQ hxj;have hle:=congrArg List.length hsp;simp only[zC] at hle;have hle2:=cK (Tm.vss (a.use.take j)) (l0);have hI:=ih x (Cq (zE hxj)) (own++J) (bX (l0) (Tm.vss (a.use.take j))) k1 (by rw[zC];exact aT (aY (Zw _ _) ho) hJ) hj2 (by rw[Tm.GU hc] at hb;omega)
    rw[zC,zg] at hI
    conv=>whnf
    repeat' (first|refine gC (gD (cI ?_))|refine gL (.map ?_)|refine gI (gT (iA ?_)))<;>conv=>whnf
    refine ag.raw hI ?_;rintro r bs' ⟨J2,k2,hk2,hJ2,rfl,rfl⟩
    conv=>whnf
    repeat' refine gW (wI ?_)<;>conv=>whnf
    refine⟨(j+1,k2,J++J2),⟨⟨hlt,?_,?_⟩,by simp only;omega⟩,?_⟩
    .dsimp only;rw[htk,mX];exact hk2
    .dsimp only;rw[zC,<-Zh];rw[zC] at hJ2;exact aT (aY (Zw _ _) hJ) hJ2
    .dsimp only;rw[htk,mX];refine aq.atS ?_ (by simp) rfl
     conv=>whnf
     repeat' (first|(refine gV ?_;first|refine vE ?_|refine vI ?_|(refine WkN.norm ?_ ?_;(focus (simp[AV.norm,AV.aj,Zh];done))))|exact True.intro)<;>conv=>whnf
   .obtain rfl:j=a.use.length:=by omega
    rw[zz] at hj2
    conv=>whnf
    repeat' (first|refine gC (gD (cJ ?_))|refine gL (.map ?_))<;>conv=>whnf
    rw[zz,Tm.GU hc];exact ak.slot ⟨J,k1,hj2,hJ,rfl,rfl⟩
theorem oY{l:List Tm}(hb:(Tm.vss l).length<=100000):Fun Tryz.prog 164 [slA Tm.av l] (slA aK (aV (Tm.vss l))):=by
 refine Fun.assume rfl λhg0=>?_;have hg:=(aU (hg0 (slA Tm.av l) (by simp))).1
 refine Fun.of (gz (by simp) ?_) rfl rfl
 conv=>whnf
 skip;refine az.by (fb:=false) (λst_ (q:Nat×Nat×List Box)=>⟨[(0,slA Tm.av l),(3,.bsl q.2.2.length (bX [] (Tm.vss (l.take q.1))).length q.2.1),(4,.int .i64 q.1)],q.2.2++[bh (AV.int .i64) 1 q.2.1 (bX [] (Tm.vss (l.take q.1)))],st_.lo⟩) (λq=>q.1<=l.length/\(bX [] (Tm.vss (l.take q.1))).length<=q.2.1/\al q.2.2.length q.2.2=true) (λq=>l.length-q.1) (0,0,[]) ⟨zJ _,by simp[Tm.vss,bX],rfl⟩ ?_ ?_
 .refine aq.DY 3 rfl ?_;refine aq.atS ?_ rfl rfl
  conv=>whnf
  repeat' (first|(refine gV ?_;first|refine vE ?_|refine vI ?_|(refine WkN.norm ?_ ?_;(focus (simp[AV.norm,AV.aj,Tm.vss,bX];done))))|exact True.intro)<;>conv=>whnf
 .rintro ⟨j,k1,J⟩ ⟨hj1,hj2,hJ⟩;dsimp only at hj1 hj2 hJ|-
  by_cases hlt:j<l.length
  .obtain ⟨x,hxj⟩:∃x,l[j]? =some x:=⟨_,zA hlt⟩;have hsp:=Tm.jN hxj;have htk:=Tm.lQ hxj;have hle:=congrArg List.length hsp;simp only[zC] at hle;have hle2:=cK (Tm.vss (l.take j)) [];simp only[ZP] at hle2
   conv=>whnf
   repeat' (first|refine gC (gD (cI ?_))|refine gL (.map ?_)|refine gI (gT (iA ?_)))<;>conv=>whnf
   refine ag.raw (Ec x J (bX [] (Tm.vss (l.take j))) k1 hJ hj2 (by omega)) ?_
   rintro r bs' ⟨J2,k2,hk2,hJ2,rfl,rfl⟩
   conv=>whnf
   repeat' refine gW (wI ?_)<;>conv=>whnf
   refine⟨(j+1,k2,J++J2),⟨⟨hlt,?_,?_⟩,by simp only;omega⟩,?_⟩
   .dsimp only;rw[htk,mX];exact hk2
   .dsimp only;rw[zC];exact aT (aY (Zw _ _) hJ) hJ2
   .dsimp only;rw[htk,mX];refine aq.atS ?_ (by simp) rfl
    conv=>whnf
    repeat' (first|(refine gV ?_;first|refine vE ?_|refine vI ?_|(refine WkN.norm ?_ ?_;(focus (simp[AV.norm,AV.aj,];done))))|exact True.intro)<;>conv=>whnf
  .obtain rfl:j=l.length:=by omega
   rw[zz] at hj2
   conv=>whnf
   repeat' (first|refine gC (gD (cJ ?_))|refine gL (.map ?_))<;>conv=>whnf
   refine ak.froze (l:=bX [] (Tm.vss l)) wA rfl (by simp[bh]) (by rw[zz]) ?_
   exact ak.slot rfl
end Go.CK
namespace Go.CK
open Go.AM Go.Proofs
variable{ab:List AV}{bs:List Box}{Q:AV->List Box->Prop}
def ue:RC:=
 (.seq (rR [0] [oQ 2 (.mov (.c (.bool false)))]) (.seq (rR [2] [qM 3 0,oQ 4 (cF 148 [3,(.c (.int .u8 1))]),qM 5 4,oG 6 5 true (.mov 0),oG 7 5 true (cF 149 [6]),oG 8 5 true (.un .not 7),oQ 9 (.pick 5 8 (.c (.bool false))),qM 2 9]) .ret))
theorem uk(hn:ab.length<=10)(h:SP Tryz.prog true ab bs ue [.slot 2] Q):AM.Sem Tryz.prog 95 ab bs Q:=
 oZ (keeps:=[(0,[0]),(1,[2])]) (solo:=[]) Tryz.func95 rfl hn h
def pd:RC:=
 (.seq (rR [0] [oQ 2 (.mov (.c (.bool false)))]) (.seq (.seq (rR [3] [qM 3 0]) (.block 0 (.seq (.seq (rR [3,4] [oQ 5 (.bin .eql 3 (.c (.str ⟨⟨[99,111,110,115,116,114,97,105,110,116]⟩⟩))),qM 4 5]) (.cond 4 .skip (.seq (rR [3,4] [oQ 6 (.bin .eql 3 (.c (.str ⟨⟨[116,114,117,101]⟩⟩))),qM 4 6]) (.cond 4 .skip (.seq (rR [3,4] [oQ 7 (.bin .eql 3 (.c (.str ⟨⟨[102,97,105,108]⟩⟩))),qM 4 7]) (.cond 4 .skip (.seq (rR [3,4] [oQ 8 (.bin .eql 3 (.c (.str ⟨⟨[105,115]⟩⟩))),qM 4 8]) (.cond 4 .skip (.seq (rR [3,4] [oQ 9 (.bin .eql 3 (.c (.str ⟨⟨[105,110,116]⟩⟩))),qM 4 9]) (.cond 4 .skip (rR [4] [oQ 10 (.bin .eql 3 (.c (.str ⟨⟨[103,114,111,117,110,100]⟩⟩))),qM 4 10]))))))))))) (.cond 4 (.seq (rR [2] [oQ 2 (.mov (.c (.bool true)))]) .ret) .skip)))) (.seq (rR [2] [oQ 2 (.mov (.c (.bool false)))]) .ret)))
theorem pq(hn:ab.length<=11)(h:SP Tryz.prog true ab bs pd [.slot 2] Q):AM.Sem Tryz.prog 149 ab bs Q:=
 oZ (keeps:=[(0,[0]),(1,[3]),(2,[3,4]),(3,[3,4]),(4,[3,4]),(5,[3,4]),(6,[3,4]),(7,[4]),(8,[2]),(9,[2])]) (solo:=[]) Tryz.func149 rfl hn h
def jl:RC:=
 (.seq (rR [1] [oQ 1 (.box 0),oQ 2 (.mov (.c (.bool false)))]) (.seq (rR [2] [qA 3 4 1,oQ 4 (cF 210 [3]),qM 5 4,oG 6 5 true (.load true 4 1),oG 7 5 true (cF 185 [6]),oG 8 5 true (.bin .leq 7 (.c (.int .i64 200))),oQ 9 (.pick 5 8 (.c (.bool false))),qM 10 9,oG 11 10 true (.load true 4 1),oG 12 10 true (cF 211 [11]),oG 13 10 true (.bin .leq 12 (.c (.int .i64 20))),oQ 14 (.pick 10 13 (.c (.bool false))),qM 2 14]) .ret))
theorem jD(hn:ab.length<=15)(h:SP Tryz.prog true ab bs jl [.slot 2] Q):AM.Sem Tryz.prog 184 ab bs Q:=
 oZ (keeps:=[(0,[1]),(1,[2])]) (solo:=[]) Tryz.func184 rfl hn h
def jZ:RC:=
 (.seq (rR [1] [oQ 1 (.box 0),oQ 2 (.mov (.c (.bool false)))]) (.seq (.seq (rR [1,6] [qF 5 0 1,qL 6 5]) (.block 0 (.seq (rR [1,6,7] [oQ 8 (.bin .eql 6 (.c (.int .i64 0))),qM 7 8]) (.cond 7 (.seq (rR [2] [qF 9 1 1,qL 10 9,oQ 11 (.bin .geq 10 (.c (.int .i64 (-2147483648)))),qM 12 11,oG 13 12 true (.aZ 1 1),oG 14 12 true (.load false 1 13),oG 15 12 true (.bin .leq 14 (.c (.int .i64 2147483648))),oQ 16 (.pick 12 15 (.c (.bool false))),qM 17 16,oG 18 17 true (.aZ 2 1),oG 19 17 true (.load false 1 18),oG 20 17 true (.bin .eql 19 (.c (.str ⟨⟨[]⟩⟩))),oQ 21 (.pick 17 20 (.c (.bool false))),qM 22 21,oG 23 22 true (.aZ 3 1),oG 24 22 true (.load false 1 23),oG 25 22 true (.len false 24),oG 26 22 true (.bin .eql 25 (.c (.int .i64 0))),oQ 27 (.pick 22 26 (.c (.bool false))),qM 2 27]) .ret) (.seq (rR [1,6,28] [oQ 29 (.bin .eql 6 (.c (.int .i64 1))),qM 28 29]) (.cond 28
 (.seq (rR [2] [qF 30 1 1,qL 31 30,oQ 32 (.bin .geq 31 (.c (.int .i64 0))),qM 33 32,oG 34 33 true (.aZ 1 1),oG 35 33 true (.load false 1 34),oG 36 33 true (.bin .leq 35 (.c (.int .i64 1048576))),oQ 37 (.pick 33 36 (.c (.bool false))),qM 38 37,oG 39 38 true (.aZ 2 1),oG 40 38 true (.load false 1 39),oG 41 38 true (.bin .eql 40 (.c (.str ⟨⟨[]⟩⟩))),oQ 42 (.pick 38 41 (.c (.bool false))),qM 43 42,oG 44 43 true (.aZ 3 1),oG 45 43 true (.load false 1 44),oG 46 43 true (.len false 45),oG 47 43 true (.bin .eql 46 (.c (.int .i64 0))),oQ 48 (.pick 43 47 (.c (.bool false))),qM 2 48]) .ret) (.seq (rR [1,49] [oQ 50 (.bin .eql 6 (.c (.int .i64 2))),qM 49 50]) (.cond 49 (.seq (rR [1,3] [qF 51 2 1,qL 52 51,oQ 53 (cF 236 [52]),qM 54 53,oG 55 54 true (.aZ 3 1),oG 56 54 true (.load false 1 55),oG 57 54 true (.len false 56),oG 58 54 true (.bin .eql 57 (.c (.int .i64 2))),oQ 59 (.pick 54 58 (.c (.bool false))),qM 3 59])
 (.seq (.seq (rR [1,78] [qF 60 1 1,qL 61 60,oQ 62 (.bin .neq 61 (.c (.int .i64 0))),qM 63 62,oG 64 63 false (.mov 3),oG 65 63 false (.un .not 64),oG 66 63 false (.mov 65),oG 67 66 true (.aZ 2 1),oG 68 66 true (.load false 1 67),oG 69 66 true (cF 61 [68]),oG 70 66 true (.un .not 69),oG 71 66 true (.mov 70),oG 72 71 false (.aZ 3 1),oG 73 71 false (.load false 1 72),oG 74 71 false (.len false 73),oG 75 71 false (.bin .gtr 74 (.c (.int .i64 6))),oG 76 66 true (.pick 71 (.c (.bool true)) 75),oG 77 63 false (.pick 66 76 (.c (.bool false))),oQ 78 (.pick 63 (.c (.bool true)) 77)]) (.cond 78 (.seq (rR [2] [oQ 2 (.mov (.c (.bool false)))]) .ret) .skip)) (.seq (.seq (rR [1,4] [oQ 4 (.mov (.c (.int .i64 0)))]) (.block 1 (.loop (.seq (.seq (rR [1,4,83] [qM 79 4,qF 80 3 1,qL 81 80,oQ 82 (.len false 81),oQ 83 (.bin .lss 79 82)]) (.cond 83 .skip (.exit 1))) (.seq (.block 2
 (.seq (rR [1,4,92] [qF 86 3 1,qL 87 86,qM 88 4,qI 89 4 87 88,qA 90 4 89,oQ 91 (cF 210 [90]),oQ 92 (.un .not 91)]) (.cond 92 (.seq (rR [2] [oQ 2 (.mov (.c (.bool false)))]) .ret) .skip))) (rR [1,4] [qM 84 4,oQ 85 (.bin .add 84 (.c (.int .i64 1))),qM 4 85])))))) (.seq (rR [2] [oQ 2 (.mov (.c (.bool true)))]) .ret)))) .skip)))))))) (.seq (rR [2] [oQ 2 (.mov (.c (.bool false)))]) .ret)))
theorem aD(hn:ab.length<=93)(h:SP Tryz.prog true ab bs jZ [.slot 2] Q):AM.Sem Tryz.prog 210 ab bs Q:=
 oZ (keeps:=[(0,[1]),(1,[1,6]),(2,[1,6,7]),(4,[1,6,28]),(6,[1,49]),(7,[1,3]),(8,[1,78]),(9,[2]),(10,[1,4]),(11,[1,4,83]),(13,[1,4,92]),(14,[2]),(12,[1,4]),(15,[2]),(5,[2]),(3,[2]),(16,[2])]) (solo:=[]) Tryz.func210 rfl hn h
def j1:RC:=
 (.seq (rR [1] [oQ 1 (.box 0),oQ 2 (.mov (.c (.int .i64 0)))]) (.seq (rR [1,3] [oQ 3 (.mov (.c (.int .i64 1)))]) (.seq (rR [3,4] [qA 6 4 1,oQ 7 (cF 212 [6]),qM 4 7]) (.seq (.seq (rR [3,4,5] [oQ 5 (.mov (.c (.int .i64 0)))]) (.block 0 (.loop (.seq (.seq (rR [3,4,5,11] [qM 8 5,qM 9 4,oQ 10 (.len false 9),oQ 11 (.bin .lss 8 10)]) (.cond 11 .skip (.exit 0))) (.seq (.block 1 (rR [3,4,5] [qM 14 3,qM 15 4,qM 16 5,qI 17 4 15 16,qA 18 4 17,oQ 19 (cF 185 [18]),oQ 20 (.bin .add 14 19),qM 3 20])) (rR [3,4,5] [qM 12 5,oQ 13 (.bin .add 12 (.c (.int .i64 1))),qM 5 13])))))) (.seq (rR [2] [qM 21 3,qM 2 21]) .ret)))))
theorem kf(hn:ab.length<=22)(h:SP Tryz.prog true ab bs j1 [.slot 2] Q):AM.Sem Tryz.prog 185 ab bs Q:=
 oZ (keeps:=[(0,[1]),(1,[1,3]),(2,[3,4]),(3,[3,4,5]),(4,[3,4,5,11]),(6,[3,4,5]),(5,[3,4,5]),(7,[2])]) (solo:=[]) Tryz.func185 rfl hn h
def jm:RC:=
 (.seq (rR [1] [oQ 1 (.box 0),oQ 2 (.mov (.c (.int .i64 0)))]) (.seq (rR [1,3] [oQ 3 (.mov (.c (.int .i64 0)))]) (.seq (rR [3,4] [qA 6 4 1,oQ 7 (cF 212 [6]),qM 4 7]) (.seq (.seq (rR [3,4,5] [oQ 5 (.mov (.c (.int .i64 0)))]) (.block 0 (.loop (.seq (.seq (rR [3,4,5,11] [qM 8 5,qM 9 4,oQ 10 (.len false 9),oQ 11 (.bin .lss 8 10)]) (.cond 11 .skip (.exit 0))) (.seq (.block 1 (rR [3,4,5] [qM 14 3,qM 15 4,qM 16 5,qI 17 4 15 16,qA 18 4 17,oQ 19 (cF 211 [18]),oQ 20 (.gR true 14 19),qM 3 20])) (rR [3,4,5] [qM 12 5,oQ 13 (.bin .add 12 (.c (.int .i64 1))),qM 5 13])))))) (.seq (rR [2] [qM 21 3,oQ 22 (.bin .add 21 (.c (.int .i64 1))),qM 2 22]) .ret)))))
theorem jE(hn:ab.length<=23)(h:SP Tryz.prog true ab bs jm [.slot 2] Q):AM.Sem Tryz.prog 211 ab bs Q:=
 oZ (keeps:=[(0,[1]),(1,[1,3]),(2,[3,4]),(3,[3,4,5]),(4,[3,4,5,11]),(6,[3,4,5]),(5,[3,4,5]),(7,[2])]) (solo:=[]) Tryz.func211 rfl hn h
def fJ:RC:=
 (.seq (rR [0] [oQ 2 (.mov (.c (.bool false)))]) (.seq (rR [2] [qM 3 0,oQ 4 (.bin .eql 3 (.c (.str ⟨⟨[43]⟩⟩))),qM 5 4,oG 6 5 false (.mov 0),oG 7 5 false (.bin .eql 6 (.c (.str ⟨⟨[45]⟩⟩))),oQ 8 (.pick 5 (.c (.bool true)) 7),qM 9 8,oG 10 9 false (.mov 0),oG 11 9 false (.bin .eql 10 (.c (.str ⟨⟨[42]⟩⟩))),oQ 12 (.pick 9 (.c (.bool true)) 11),qM 13 12,oG 14 13 false (.mov 0),oG 15 13 false (.bin .eql 14 (.c (.str ⟨⟨[47]⟩⟩))),oQ 16 (.pick 13 (.c (.bool true)) 15),qM 17 16,oG 18 17 false (.mov 0),oG 19 17 false (.bin .eql 18 (.c (.str ⟨⟨[37]⟩⟩))),oQ 20 (.pick 17 (.c (.bool true)) 19),qM 2 20]) .ret))
theorem fP(hn:ab.length<=21)(h:SP Tryz.prog true ab bs fJ [.slot 2] Q):AM.Sem Tryz.prog 236 ab bs Q:=
 oZ (keeps:=[(0,[0]),(1,[2])]) (solo:=[]) Tryz.func236 rfl hn h
def jr:RC:=
 (.seq (rR [0] [oQ 2 (.mov (.c (.bool false)))]) (.seq (rR [2] [qM 3 0,oQ 4 (cF 111 [3]),qM 5 4,oG 6 5 true (.mov 0),oG 7 5 true (.nQ 6 (.c (.int .i64 0))),oG 8 5 true (cF 112 [7]),oQ 9 (.pick 5 8 (.c (.bool false))),qM 10 9,oG 11 10 true (.mov 0),oG 12 10 true (cF 113 [11]),oG 13 10 true (.un .not 12),oQ 14 (.pick 10 13 (.c (.bool false))),qM 2 14]) .ret))
theorem dp(hn:ab.length<=15)(h:SP Tryz.prog true ab bs jr [.slot 2] Q):AM.Sem Tryz.prog 61 ab bs Q:=
 oZ (keeps:=[(0,[0]),(1,[2])]) (solo:=[]) Tryz.func61 rfl hn h
def j2:RC:=
 (.seq (rR [0] [oQ 2 (.mov (.c (.bool false)))]) (.seq (.seq (rR [0,3] [oQ 3 (.mov (.c (.int .i64 0)))]) (.block 0 (.loop (.seq (.seq (rR [0,3,7] [qM 4 3,qM 5 0,oQ 6 (.len true 5),oQ 7 (.bin .lss 4 6)]) (.cond 7 .skip (.exit 0))) (.seq (.block 1 (.seq (rR [0,3,39] [qM 10 0,qM 11 3,oQ 12 (.nQ 10 11),oQ 13 (cF 112 [12]),oQ 14 (.un .not 13),qM 15 14,oG 16 15 true (.mov 0),oG 17 15 true (.mov 3),oG 18 15 true (.nQ 16 17),oG 19 15 true (cF 162 [18]),oG 20 15 true (.un .not 19),oQ 21 (.pick 15 20 (.c (.bool false))),qM 22 21,oG 23 22 true (.mov 0),oG 24 22 true (.mov 3),oG 25 22 true (.nQ 23 24),oG 26 22 true (.bin .lss 25 (.c (.int .u8 48))),oG 27 22 true (.mov 26),oG 28 27 false (.mov 0),oG 29 27 false (.mov 3),oG 30 27 false (.nQ 28 29),oG 31 27 false (.bin .gtr 30 (.c (.int .u8 57))),oG 32 22 true (.pick 27 (.c (.bool true)) 31),oQ 33 (.pick 22 32 (.c (.bool false))),qM 34 33,oG 35 34 true (.mov 0),oG 36 34 true (.mov 3),oG 37 34 true (.nQ 35 36),oG 38 34 true (.bin .neq 37 (.c (.int .u8 95))),oQ 39 (.pick 34 38 (.c (.bool false)))])
 (.cond 39 (.seq (rR [2] [oQ 2 (.mov (.c (.bool false)))]) .ret) .skip))) (rR [0,3] [qM 8 3,oQ 9 (.bin .add 8 (.c (.int .i64 1))),qM 3 9])))))) (.seq (rR [2] [qM 40 0,oQ 41 (.len true 40),oQ 42 (.bin .geq 41 (.c (.int .i64 1))),qM 43 42,oG 44 43 true (.mov 0),oG 45 43 true (.len true 44),oG 46 43 true (.bin .leq 45 (.c (.int .i64 40))),oQ 47 (.pick 43 46 (.c (.bool false))),qM 2 47]) .ret)))
theorem kg(hn:ab.length<=48)(h:SP Tryz.prog true ab bs j2 [.slot 2] Q):AM.Sem Tryz.prog 111 ab bs Q:=
 oZ (keeps:=[(0,[0]),(1,[0,3]),(2,[0,3,7]),(4,[0,3,39]),(5,[2]),(3,[0,3]),(6,[2])]) (solo:=[]) Tryz.func111 rfl hn h
def jq:RC:=
 (.seq (rR [0] [oQ 2 (.mov (.c (.bool false)))]) (.seq (rR [2] [qM 3 0,oQ 4 (.bin .geq 3 (.c (.int .u8 97))),qM 5 4,oG 6 5 true (.mov 0),oG 7 5 true (.bin .leq 6 (.c (.int .u8 122))),oQ 8 (.pick 5 7 (.c (.bool false))),qM 2 8]) .ret))
theorem jH(hn:ab.length<=9)(h:SP Tryz.prog true ab bs jq [.slot 2] Q):AM.Sem Tryz.prog 112 ab bs Q:=
 oZ (keeps:=[(0,[0]),(1,[2])]) (solo:=[]) Tryz.func112 rfl hn h
def fI:RC:=
 (.seq (rR [0] [oQ 2 (.mov (.c (.bool false)))]) (.seq (rR [2] [qM 3 0,oQ 4 (.bin .eql 3 (.c (.str ⟨⟨[99,111,110,115,116,114,97,105,110,116]⟩⟩))),qM 5 4,oG 6 5 false (.mov 0),oG 7 5 false (.bin .eql 6 (.c (.str ⟨⟨[116,114,117,101]⟩⟩))),oQ 8 (.pick 5 (.c (.bool true)) 7),qM 9 8,oG 10 9 false (.mov 0),oG 11 9 false (.bin .eql 10 (.c (.str ⟨⟨[102,97,105,108]⟩⟩))),oQ 12 (.pick 9 (.c (.bool true)) 11),qM 13 12,oG 14 13 false (.mov 0),oG 15 13 false (.bin .eql 14 (.c (.str ⟨⟨[105,115]⟩⟩))),oQ 16 (.pick 13 (.c (.bool true)) 15),qM 17 16,oG 18 17 false (.mov 0),oG 19 17 false (.bin .eql 18 (.c (.str ⟨⟨[105,110,116]⟩⟩))),oQ 20 (.pick 17 (.c (.bool true)) 19),qM 21 20,oG 22 21 false (.mov 0),oG 23 21 false (.bin .eql 22 (.c (.str ⟨⟨[103,114,111,117,110,100]⟩⟩))),oQ 24 (.pick 21 (.c (.bool true)) 23),qM 2 24]) .ret))
theorem fO(hn:ab.length<=25)(h:SP Tryz.prog true ab bs fI [.slot 2] Q):AM.Sem Tryz.prog 113 ab bs Q:=
 oZ (keeps:=[(0,[0]),(1,[2])]) (solo:=[]) Tryz.func113 rfl hn h
def jo:RC:=
 (.seq (rR [0] [oQ 2 (.mov (.c (.bool false)))]) (.seq (rR [2] [qM 3 0,oQ 4 (.bin .geq 3 (.c (.int .u8 65))),qM 5 4,oG 6 5 true (.mov 0),oG 7 5 true (.bin .leq 6 (.c (.int .u8 90))),oQ 8 (.pick 5 7 (.c (.bool false))),qM 2 8]) .ret))
theorem jG(hn:ab.length<=9)(h:SP Tryz.prog true ab bs jo [.slot 2] Q):AM.Sem Tryz.prog 162 ab bs Q:=
 oZ (keeps:=[(0,[0]),(1,[2])]) (solo:=[]) Tryz.func162 rfl hn h
end Go.CK
namespace Go.CK
open Go.AM Go.Proofs
variable{ab:List AV}{bs:List Box}{Q:AV->List Box->Prop}
def fk:RC:=
 (.seq (rR [1] [oQ 1 (.box 0),oQ 2 (.mov (.c (.bool false)))]) (.seq (.seq (rR [1,5] [qF 3 0 1,qL 4 3,oQ 5 (.bin .eql 4 (.c (.int .i64 0)))]) (.cond 5 (.seq (rR [2] [qF 6 1 1,qL 7 6,qF 8 2 1,qL 9 8,oQ 10 (.build [(.str ⟨⟨[]⟩⟩),(.sl .full [])] [(0,1,7),(1,1,9)]),oQ 11 (cF 75 [10]),qM 2 11]) .ret) .skip)) (.seq (.reg true [2] [qF 12 1 1,qL 13 12,oQ 14 (.bin .eql 13 (.c (.str ⟨⟨[]⟩⟩))),oQ 15 (.take 14),oG 16 15 true (.aZ 0 1),oG 17 15 true (.load false 1 16),oG 18 15 true (cF 163 [17]),oG 19 15 true (.aZ 2 1),oG 20 15 true (.load false 1 19),oG 21 15 true (.len false 20),oG 22 15 true (.bin .eql 18 21),oQ 23 (.pick 15 22 (.c (.bool false))),oQ 24 (.take 23),oG 25 24 true (.aZ 2 1),oG 26 24 true (.load false 1 25),oG 27 24 true (cF 135 [26]),oQ 28 (.pick 24 27 (.c (.bool false))),oQ 2 (.take 28)]) .ret)))
theorem aX(hn:ab.length<=29)(h:SP Tryz.prog true ab bs fk [.slot 2] Q):AM.Sem Tryz.prog 116 ab bs Q:=
 oZ (keeps:=[(0,[1]),(1,[1,5]),(2,[2]),(3,[2])]) (solo:=[]) Tryz.func116 rfl hn h
def fm:RC:=
 (.seq (rR [1] [oQ 1 (.box 0),oQ 2 (.mov (.c (.bool false)))]) (.seq (rR [2] [qF 3 0 1,qL 4 3,oQ 5 (cF 61 [4]),qM 6 5,oG 7 6 true (.aZ 1 1),oG 8 6 true (.load false 1 7),oG 9 6 true (.len false 8),oG 10 6 true (.bin .leq 9 (.c (.int .i64 6))),oQ 11 (.pick 6 10 (.c (.bool false))),qM 12 11,oG 13 12 true (.aZ 1 1),oG 14 12 true (.load false 1 13),oG 15 12 true (cF 135 [14]),oQ 16 (.pick 12 15 (.c (.bool false))),qM 2 16]) .ret))
theorem bL(hn:ab.length<=17)(h:SP Tryz.prog true ab bs fm [.slot 2] Q):AM.Sem Tryz.prog 75 ab bs Q:=
 oZ (keeps:=[(0,[1]),(1,[2])]) (solo:=[]) Tryz.func75 rfl hn h
def fi:RC:=
 (.seq (rR [0] [oQ 2 (.mov (.c (.bool false)))]) (.seq (rR [0,3] [oQ 3 (.mov (.c (.int .i64 0)))]) (.seq (.seq (rR [0,3,4] [oQ 4 (.mov (.c (.int .i64 0)))]) (.block 0 (.loop (.seq (.seq (rR [0,3,4,8] [qM 5 4,qM 6 0,oQ 7 (.len false 6),oQ 8 (.bin .lss 5 7)]) (.cond 8 .skip (.exit 0))) (.seq (.block 1 (.seq (.seq (rR [0,3,4,16] [qM 11 0,qM 12 4,qI 13 4 11 12,qA 14 4 13,oQ 15 (cF 184 [14]),oQ 16 (.un .not 15)]) (.cond 16 (.seq (rR [2] [oQ 2 (.mov (.c (.bool false)))]) .ret) .skip)) (rR [0,3,4] [qM 17 3,qM 18 0,qM 19 4,qI 20 4 18 19,qA 21 4 20,oQ 22 (cF 185 [21]),oQ 23 (.bin .add 17 22),qM 3 23]))) (rR [0,3,4] [qM 9 4,oQ 10 (.bin .add 9 (.c (.int .i64 1))),qM 4 10])))))) (.seq (rR [2] [qM 24 3,oQ 25 (.bin .leq 24 (.c (.int .i64 200))),qM 2 25]) .ret))))
theorem fp(hn:ab.length<=26)(h:SP Tryz.prog true ab bs fi [.slot 2] Q):AM.Sem Tryz.prog 135 ab bs Q:=
 oZ (keeps:=[(0,[0]),(1,[0,3]),(2,[0,3,4]),(3,[0,3,4,8]),(5,[0,3,4,16]),(6,[2]),(7,[0,3,4]),(4,[0,3,4]),(8,[2])]) (solo:=[]) Tryz.func135 rfl hn h
def jn:RC:=
 (.seq (rR [0] [oQ 2 (.mov (.c (.int .i64 0)))]) (.seq (.block 0 (.seq (rR [0,3] [qM 4 0,oQ 5 (.bin .eql 4 (.c (.int .i64 1))),qM 6 5,oG 7 6 false (.mov 0),oG 8 6 false (.bin .eql 7 (.c (.int .i64 2))),oQ 9 (.pick 6 (.c (.bool true)) 8),qM 3 9]) (.cond 3 (.seq (rR [2] [oQ 2 (.mov (.c (.int .i64 0)))]) .ret) (.seq (rR [0,10] [qM 11 0,oQ 12 (.bin .eql 11 (.c (.int .i64 11))),qM 13 12,oG 14 13 false (.mov 0),oG 15 13 false (.bin .eql 14 (.c (.int .i64 12))),oQ 16 (.pick 13 (.c (.bool true)) 15),qM 10 16]) (.cond 10 (.seq (rR [2] [oQ 2 (.mov (.c (.int .i64 1)))]) .ret) (.seq (rR [17] [qM 18 0,oQ 19 (.bin .gtr 18 (.c (.int .i64 2))),qM 20 19,oG 21 20 true (.mov 0),oG 22 20 true (.bin .lss 21 (.c (.int .i64 11))),oQ 23 (.pick 20 22 (.c (.bool false))),qM 17 23]) (.cond 17 (.seq (rR [2] [oQ 2 (.mov (.c (.int .i64 2)))]) .ret) .skip))))))) (.seq (rR [2] [oQ 2 (.mov (.c (.int .i64 (-1))))])
 .ret)))
theorem jF(hn:ab.length<=24)(h:SP Tryz.prog true ab bs jn [.slot 2] Q):AM.Sem Tryz.prog 163 ab bs Q:=
 oZ (keeps:=[(0,[0]),(1,[0,3]),(3,[0,10]),(5,[17]),(6,[2]),(4,[2]),(2,[2]),(7,[2])]) (solo:=[]) Tryz.func163 rfl hn h
def eX:RC:=
 (.seq (rR [0,1] [oQ 4 (.mov (.c (.bool false)))]) (.seq (.seq (rR [0,1,5] [oQ 5 (.mov (.c (.int .i64 0)))]) (.block 0 (.loop (.seq (.seq (rR [0,1,5,13] [qM 6 5,qM 7 0,oQ 8 (.len false 7),oQ 9 (.bin .lss 6 8),qM 10 9,oG 11 10 true (.mov 1),oG 12 10 true (.bin .geq 11 (.c (.int .i64 0))),oQ 13 (.pick 10 12 (.c (.bool false)))]) (.cond 13 .skip (.exit 0))) (.seq (.block 1 (.reg true [0,1,5] [qM 16 0,qM 17 5,qI 18 3 16 17,qF 19 2 18,qL 20 19,qM 21 1,oQ 22 (.bin .sub 21 (.c (.int .i64 1))),qM 23 0,qM 24 5,qI 25 3 23 24,qF 26 1 25,qL 27 26,oQ 28 (.len true 27),oQ 29 (.bin .quo 28 (.c (.int .i64 8))),oQ 30 (.bin .sub 22 29),oQ 31 (cF 93 [20,30,(.c (.int .i64 64))]),oQ 1 (.take 31)])) (rR [0,1,5] [qM 14 5,oQ 15 (.bin .add 14 (.c (.int .i64 1))),qM 5 15])))))) (.seq (rR [4] [qM 32 1,oQ 33 (.bin .lss 32 (.c (.int .i64 0))),qM 4 33]) .ret)))
theorem e6(hn:ab.length<=34)(h:SP Tryz.prog true ab bs eX [.slot 4] Q):AM.Sem Tryz.prog 171 ab bs Q:=
 oZ (keeps:=[(0,[0,1]),(1,[0,1,5]),(2,[0,1,5,13]),(4,[0,1,5]),(3,[0,1,5]),(5,[4])]) (solo:=[]) Tryz.func171 rfl hn h
def kM:RC:=
 (.seq (rR [0,2] [oQ 2 (.box (.c (.agg [(.int .i64 0),(.int .i64 0),(.str ⟨⟨[]⟩⟩),(.sl .full [])])))]) (.seq (rR [2] [qM 3 0,oQ 4 (.build [(.int .i64 0),(.int .i64 0),(.str ⟨⟨[]⟩⟩),(.sl .full [])] [(0,1,(.c (.int .i64 0))),(1,1,3)]),oN (.store 4 2 4)]) .ret))
theorem kT(hn:ab.length<=5)(h:SP Tryz.prog true ab bs kM [.cell 2 true 4] Q):AM.Sem Tryz.prog 60 ab bs Q:=
 oZ (keeps:=[(0,[0,2]),(1,[2])]) (solo:=[]) Tryz.func60 rfl hn h
def kL:RC:=
 (.seq (rR [0,2] [oQ 2 (.box (.c (.agg [(.int .i64 0),(.int .i64 0),(.str ⟨⟨[]⟩⟩),(.sl .full [])])))]) (.seq (rR [2] [qM 3 0,oQ 4 (.build [(.int .i64 0),(.int .i64 0),(.str ⟨⟨[]⟩⟩),(.sl .full [])] [(0,1,(.c (.int .i64 1))),(1,1,3)]),oN (.store 4 2 4)]) .ret))
theorem kS(hn:ab.length<=5)(h:SP Tryz.prog true ab bs kL [.cell 2 true 4] Q):AM.Sem Tryz.prog 59 ab bs Q:=
 oZ (keeps:=[(0,[0,2]),(1,[2])]) (solo:=[]) Tryz.func59 rfl hn h
end Go.CK
