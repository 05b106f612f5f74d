/-
  Texts of this aQ joined (wip/gen/bundle.py),those declarations only that are needed:TrmB TrmC Vars VarsB. By an AI agent.
-/
import Derived.Test.YtahnpgfkkngimaaGreatBau
set_option linter.unusedSimpArgs false
set_option linter.unusedVariables false
set_option maxRecDepth 100000
namespace Go.CK
open Go.AM Go.Proofs
def isI(n:Int)(x:Int):Bool:=decide (n=x)
theorem Jf(l:List Int)(n:Int):l.any (isI n)=decide (n∈l):=by
 rw[Bool.eq_iff_iff];simp[isI]
theorem AT{l:List Int}{n:Int}:Fun Tryz.prog 168 [slA c7 l,.int .i64 n] (.bool (decide (n∈l))):=by
 rw[<-Jf];refine Fun.assume rfl λhg0=>?_;have hg:=(bH (hg0 (slA c7 l) (by simp))).1
 refine Fun.of (lL (by simp) ?_) rfl rfl
 conv=>whnf
 skip;refine aw.count (fb:=true) (l.length) (λst_ j=>st_.zG [(5,.int .i64 j)]) (λj=>∀i x,i<j->l[i]? =some x->isI n x=false) ?_ ?_ (λj hj hij=>?_) (λhij=>?_)
 .exact IJ
 .exact au
 .conv=>whnf
  repeat' (first|(refine gC ?_;first|refine gD (cI ?_)|refine aq.dec (λhc=>?_) (λhc=>?_))|refine gW (wI ?_)|refine gL (.map ?_)|(refine gI ?_;(refine gM ?_;refine iH λx hx=>?_))|refine af.nrm ?_)<;>conv=>whnf
  .rw [KM (by assumption) (by simp[isI, *])]
  .refine ⟨IK hij (by assumption) (by simp[isI];omega),?_⟩
   exact au
 .conv=>whnf
  repeat' (first|refine gC (gD (cJ ?_))|refine gL (.map ?_)|refine af.nrm ?_)<;>conv=>whnf
  rw[KL hij]
theorem Qg{l m:List Tm}:Fun Tryz.prog 104 [slA Tm.av l,slA Tm.av m] (.bool (decide (Tm.nD l m=0))):=by
 refine Fun.of (P3 (by simp) ?_) rfl rfl
 conv=>whnf
 repeat' (first|refine gF (ab.fn (Qo) ?_)|refine af.nrm ?_)<;>conv=>whnf
def Gl.same(a b:Gl):Bool:=decide (a.op=b.op)&&(decide (a.name=b.name)&&(decide (a.args.length=b.args.length)&&decide (Tm.nD a.args b.args=0)))
theorem P0{a b:Gl}:Fun Tryz.prog 70 [a.av,b.av] (.bool (a.same b)):=by
 refine Fun.of (P5 (by simp) ?_) rfl rfl
 conv=>whnf
 repeat' (first|refine gF (ab.fn (Qg) ?_)|(refine gC ?_;first|refine cN ?_|(refine gD ?_;first|refine cI ?_|refine cJ ?_)|refine aq.dec (λhc=>?_) (λhc=>?_))|refine gL (.map ?_)|refine af.nrm ?_)<;>conv=>whnf
 all_goals simp[Gl.same, *]
 all_goals omega
end Go.CK
namespace Go.CK
open Go.AM Go.Proofs
end Go.CK
namespace Go.CK
open Go.AM Go.Proofs
mutual
def Tm.vs:Tm->List Int
 |.mk k n _ l=>if k=1 then [n] else if k=2 then Tm.vss l else []
def Tm.vss:List Tm->List Int
 |[]=>[]
 |t::r=>t.vs++Tm.vss r
end
def Tm.use(t:Tm):List Tm:=if t.kind=2 then t.args else []
theorem Tm.JL{t:Tm}(h:t.kind=1):t.vs=[t.num]:=by
 obtain⟨k,n,s,l⟩:=t;simp only[Tm.kind] at h;rw[Tm.vs,if_pos h];rfl
theorem Tm.FO{t:Tm}(h:¬t.kind=1):t.vs=Tm.vss t.use:=by
 obtain⟨k,n,s,l⟩:=t;simp only[Tm.kind] at h;rw[Tm.vs,if_neg h];unfold Tm.use;show _=Tm.vss (if k=2 then l else [])
 by_cases h2:k=2
 .rw [if_pos h2,if_pos h2]
 .rw [if_neg h2,if_neg h2,Tm.vss]
theorem Tm.yf:∀l m:List Tm,Tm.vss (l++m)=Tm.vss l++Tm.vss m
 |[],m=>rfl
 |t::l,m=>by rw[Ze,Tm.vss,Tm.vss,Tm.yf l m,Zg]
theorem Tm.mL{l:List Tm}{j:Nat}{x:Tm}(h:l[j]? =some x):Tm.vss (l.take (j+1))=Tm.vss (l.take j)++x.vs:=by
 obtain⟨hj,rfl⟩:=ZB.1 h;rw[List.take_succ_eq_append_getElem hj,Tm.yf];simp[Tm.vss]
theorem Tm.nR{l:List Tm}{j:Nat}{x:Tm}(h:l[j]? =some x):Tm.vss l=Tm.vss (l.take j)++(x.vs++Tm.vss (l.drop (j+1))):=by
 rw[<-Zg,<-Tm.mL h,<-Tm.yf,List.take_append_drop]
def ys1(l:List Int):List (List AV):=l.map λn=>[c7 n]
theorem pA(l m:List Int):ys1 (l++m)=ys1 l++ys1 m:=by simp[ys1]
theorem yT{a:Tm}{x:Tm}(h:x∈a.use):x∈a.args:=by
 unfold Tm.use at h;split at h
 .exact h
 .cases h
theorem Jd{a:Tm}:Fun Tryz.prog 167 [a.avw] (slA Tm.av a.use):=by
 refine Fun.of (yM (by simp) ?_) rfl rfl
 conv=>whnf
 repeat' (first|(refine gC ?_;refine aq.dec (λhc=>?_) (λhc=>?_))|refine af.nrm ?_)<;>conv=>whnf
 all_goals simp[Tm.use, *]
theorem dK{a:Tm}:Fun Tryz.prog 136 [a.avw] (slA Tm.av a.use):=by
 refine Fun.of (kH (by simp) ?_) rfl rfl
 conv=>whnf
 repeat' (first|(refine gC ?_;refine aq.dec (λhc=>?_) (λhc=>?_))|refine af.nrm ?_)<;>conv=>whnf
 all_goals simp[Tm.use, *]
structure YC(P:Program)(b n0:Nat)(xs:List (List AV))(J:List (List AV)->List Box->Prop)(Jx:List Box->Prop):Prop where
 hb:b<n0
 hJ:∀pre bs',J pre bs'->bs'.length=n0/\aj n0 bs'=true
 hJx:∀bs',Jx bs'->bs'.length=n0/\aj n0 bs'=true
 hr:∀pre y rest bs' cs,pre++y::rest=xs->J pre bs'->mH P b y (bs'++cs) λr bs2=>∃own,bs2=own++cs/\((r=.bool true/\J (pre++[y]) own)\/(r=.bool false/\Jx own))
theorem bl2{n0:Nat}{own cs:List Box}(h:own.length=n0/\aj n0 own=true)(hcs:aj (n0+cs.length) cs=true):aj (own++cs).length (own++cs)=true:=by
 rw[ZC,h.1];exact aW (bf (XK _ _) h.2) hcs
theorem Ib(a:Tm):∀{b n0:Nat} {xs:List (List AV)} {J:List (List AV)->List Box->Prop} {Jx:List Box->Prop} (hC:YC Tryz.prog b n0 xs J Jx) (pre rest:List (List AV)) (bs cs:List Box),pre++(ys1 a.vs++rest)=xs->J pre bs->aj (n0+cs.length) cs=true->
  AM.Sem Tryz.prog 132 [a.avw,.yl b] (bs++cs) λr bs'=>∃own,bs'=own++cs/\((r=.bool true/\J (pre++ys1 a.vs) own)\/(r=.bool false/\Jx own)):=by
 induction a using Tm.bD with
 |h k n s l ih=>
 intro b n0 xs J Jx hC pre rest bs cs hx hj hcs;generalize ha:Tm.mk k n s l=a at hx|-
 have ih:∀t∈a.args,∀{b n0:Nat} {xs:List (List AV)} {J:List (List AV)->List Box->Prop} {Jx:List Box->Prop} (hC:YC Tryz.prog b n0 xs J Jx) (pre rest:List (List AV)) (bs cs:List Box),pre++(ys1 t.vs++rest)=xs->J pre bs->aj (n0+cs.length) cs=true->
  AM.Sem Tryz.prog 132 [t.avw,.yl b] (bs++cs) λr bs'=>∃own,bs'=own++cs/\((r=.bool true/\J (pre++ys1 t.vs) own)\/(r=.bool false/\Jx own)):=by subst ha;exact ih
 clear ha;have hbl:=hC.hJ _ _ hj;refine Sem.assume λhg0 _=>?_;have hg:=(oe (hg0 a.avw (by simp) rfl)).2.1
 have hgu:a.use.length<=9223372036854775807:=by unfold Tm.use;split<;>simp[hg]
 refine wz (by simp) ?_
 conv=>whnf
 repeat' (first|refine gF (ab.fn (Jd) ?_)|(refine gC ?_;refine aq.dec (λhc=>?_) (λhc=>?_))|refine gL (.map ?_)|refine gB (.last ?_))<;>conv=>whnf
 .rw [Tm.JL hc] at hx|-;have hY:=hC.hr pre [c7 a.num] rest bs (cs++[.cells [.int .i64 a.kind,.int .i64 a.num,.str a.name,.sl .no (a.args.map Tm.av)]]) hx hj;rw[<-Zg] at hY;refine zp.of hY ?_;rintro r bs' ⟨own,rfl,h⟩
  have ho:own.length=n0/\aj n0 own=true:=by
   rcases h with ⟨_,h⟩|⟨_,h⟩
   .exact hC.hJ _ _ h
   .exact hC.hJx _ h
  rcases h with ⟨rfl,h⟩|⟨rfl,h⟩
  .conv=>whnf
   skip;refine af.y8 (own:=own++cs) (Zg _ _ _).symm (show (bs++cs).length<=(own++cs).length by simp;omega) rfl (bl2 ho hcs) ?_
   exact af.slot ⟨own,rfl,.inl ⟨rfl,h⟩⟩
  .conv=>whnf
   skip;refine af.y8 (own:=own++cs) (Zg _ _ _).symm (show (bs++cs).length<=(own++cs).length by simp;omega) rfl (bl2 ho hcs) ?_
   exact af.slot ⟨own,rfl,.inr ⟨rfl,h⟩⟩
 .rw [Tm.FO hc] at hx|-;refine aw.by (fb:=false) (λ_ (q:Nat×List Box)=>⟨[(1,.yl b),(15,slA Tm.av a.use),(16,.int .i64 a.use.length),(17,.int .i64 q.1)],q.2++cs,(bs++cs).length⟩) (λq=>q.1<=a.use.length/\J (pre++ys1 (Tm.vss (a.use.take q.1))) q.2) (λq=>a.use.length-q.1) (0,bs) ⟨ZJ _,by simpa[Tm.vss,ys1] using hj⟩ ?_ ?_
  .refine ah.y8 (own:=bs++cs) rfl (ZG _) ?_ (bl2 hbl hcs) ?_
   .simp [mi,AV.lt,AV.lt1,AV.lt0,AV.aU];have:=hC.hb;omega
   .refine ah.atS ?_ rfl rfl
    conv=>whnf
    repeat' (first|(refine gV ?_;first|refine vE ?_|refine vI ?_)|exact True.intro)<;>conv=>whnf
  .rintro ⟨j,own⟩ ⟨hj1,hj2⟩;dsimp only at hj1 hj2|-;have ho:=hC.hJ _ _ hj2
   by_cases hlt:j<a.use.length
   .obtain ⟨x,hxj⟩:∃x,a.use[j]? =some x:=⟨_,ZA hlt⟩
    conv=>whnf
    repeat' (first|refine gC (gD (cI ?_))|refine gI (gT (iA ?_))|refine gB (.last ?_)|refine Ej.last ?_)<;>conv=>whnf
    have hsp:=Tm.nR hxj;have htk:=Tm.mL hxj;have hC2:=ih x (yT (ZE hxj)) hC (pre++ys1 (Tm.vss (a.use.take j))) (ys1 (Tm.vss (a.use.drop (j+1)))++rest) own (cs++[.cells [.int .i64 x.kind,.int .i64 x.num,.str x.name,.sl .no (x.args.map Tm.av)]]) (by rw[<-hx,hsp];simp[pA]) hj2 (aW (bf (by simp) hcs) rfl)
    rw[<-Zg] at hC2;refine ab.raw hC2 ?_;rintro r bs' ⟨own2,rfl,⟨rfl,h⟩|⟨rfl,h⟩⟩
    .have ho2:=hC.hJ _ _ h
     conv=>whnf
     repeat' (first|(refine gC ?_;first|refine cY ?_|refine .not ?_)|refine gW (wI ?_))<;>conv=>whnf
     refine⟨(j+1,own2),⟨⟨hlt,?_⟩,by simp only;omega⟩,ah.y8 (own:=own2++cs) (Zg _ _ _).symm (show (bs++cs).length<=(own2++cs).length by simp;omega) ?_ (bl2 ho2 hcs) ?_⟩
     .dsimp only;rw[htk,pA,<-Zg];exact h
     .simp [mi,AV.lt,AV.lt1,AV.lt0,AV.aU];have:=hC.hb;omega
     .refine ah.atS ?_ rfl rfl
      conv=>whnf
      repeat' (first|(refine gV ?_;first|refine vE ?_|refine vI ?_)|exact True.intro)<;>conv=>whnf
    .have ho2:=hC.hJx _ h
     conv=>whnf
     repeat' (refine gC ?_;first|refine cN ?_|refine .not ?_)<;>conv=>whnf
     refine af.y8 (own:=own2++cs) (Zg _ _ _).symm (show (bs++cs).length<=(own2++cs).length by simp;omega) rfl (bl2 ho2 hcs) ?_
     exact af.slot ⟨own2,rfl,.inr ⟨rfl,h⟩⟩
   .obtain rfl:j=a.use.length:=by omega
    rw[Zw] at hj2
    conv=>whnf
    repeat' refine gC (gD (cJ ?_))<;>conv=>whnf
    exact af.slot ⟨own,rfl,.inl ⟨rfl,hj2⟩⟩
theorem I7{l:List Tm}:Fun Tryz.prog 97 [slA Tm.av l] (.fn (.func 131) [] [.ept [slA Tm.av l]]):=by
 refine Fun.of (yL (by simp) ?_) rfl rfl
 conv=>whnf
 skip;refine af.of (Jm.freeze 0 rfl rfl rfl rfl ?_)
 conv=>whnf
 rfl
theorem Ff(l:List Tm):BV Tryz.prog 131 [.ept [slA Tm.av l]] (ys1 (Tm.vss l)):=by
 intro b bs J Jx hb hJ hJx hr h0;have hC:YC Tryz.prog b bs.length (ys1 (Tm.vss l)) J Jx:=⟨hb,hJ,hJx,hr⟩;refine Sem.assume λ_ hg0=>?_;have hg:=(bH (hg0 [slA Tm.av l] (by simp) (slA Tm.av l) (by simp))).1
 refine sO (by simp) ?_
 conv=>whnf
 repeat' refine gL (.map ?_)<;>conv=>whnf
 refine aw.by (fb:=false) (λ_ (q:Nat×List Box)=>⟨[(0,.yl b),(1,.ept [slA Tm.av l]),(5,.int .i64 l.length),(6,.int .i64 q.1)],q.2,bs.length⟩) (λq=>q.1<=l.length/\J (ys1 (Tm.vss (l.take q.1))) q.2) (λq=>l.length-q.1) (0,bs) ⟨ZJ _,by simpa[Tm.vss,ys1] using h0⟩ (ah.eqS rfl rfl rfl) ?_
 rintro⟨j,own⟩ ⟨hj1,hj2⟩;dsimp only at hj1 hj2|-;have ho:=hC.hJ _ _ hj2
 by_cases hlt:j<l.length
 .obtain ⟨x,hxj⟩:∃x,l[j]? =some x:=⟨_,ZA hlt⟩
  conv=>whnf
  repeat' (first|refine gC (gD (cI ?_))|refine gI (gT (iA ?_)))<;>conv=>whnf
  have hsp:=Tm.nR hxj;have htk:=Tm.mL hxj;have hC2:=Ib x hC (ys1 (Tm.vss (l.take j))) (ys1 (Tm.vss (l.drop (j+1)))) own [] (by rw[hsp,pA,pA]) hj2 rfl
  rw[Zv] at hC2;refine ab.raw hC2 ?_;rintro r bs' ⟨own2,rfl,⟨rfl,h⟩|⟨rfl,h⟩⟩
  .have ho2:=hC.hJ _ _ h
   conv=>whnf
   repeat' (first|(refine gC ?_;first|refine cY ?_|refine .not ?_)|refine gW (wI ?_))<;>conv=>whnf
   refine⟨(j+1,own2),⟨⟨hlt,?_⟩,by simp only;omega⟩,?_⟩
   .dsimp only;rw[htk,pA];exact h
   .refine ah.atS ?_ (Zv _) rfl
    conv=>whnf
    repeat' (first|(refine gV ?_;first|refine vE ?_|refine vI ?_)|exact True.intro)<;>conv=>whnf
  .conv=>whnf
   repeat' (first|(refine gC ?_;first|refine cN ?_|refine .not ?_)|refine af.nrm ?_)<;>conv=>whnf
   refine Or.inr ?_;rw[Zv];exact h
 .obtain rfl:j=l.length:=by omega
  rw[Zw] at hj2
  conv=>whnf
  repeat' (first|refine gC (gD (cJ ?_))|refine af.nrm ?_)<;>conv=>whnf
  exact Or.inl hj2
def rU(l:List Int)(n:Int):List Int:=if n∈l then l else l++[n]
def bE(l m:List Int):List Int:=m.foldl rU l
theorem oq(l m k:List Int):bE l (m++k)=bE (bE l m) k:=by simp[bE]
theorem OJ{l:List Int}{n x:Int}:x∈rU l n↔x∈l\/x=n:=by
 unfold rU;split
 .exact ⟨.inl,λh=>h.elim id λe=>by subst e;assumption⟩
 .simp
theorem NM:∀{m l:List Int} {x:Int},x∈bE l m↔x∈l\/x∈m
 |[],l,x=>by simp[bE]
 |n::m,l,x=>by
  show x∈bE (rU l n) m↔_;rw[NM,OJ,ZI,or_assoc]
theorem HY(l:List Int)(n:Int):(rU l n).length<=l.length+1:=by
 unfold rU;split<;>simp
theorem oo:∀(m l:List Int),(bE l m).length<=l.length+m.length
 |[],l=>by simp[bE]
 |n::m,l=>by
  have h1:=oo m (rU l n);have h2:=HY l n;show (bE (rU l n) m).length<=_;simp only[ZX];omega
theorem Eg{l:List Int}{n:Int}(h:n∈l):rU l n=l:=if_pos h
theorem BN{l:List Int}{n:Int}(h:¬n∈l):rU l n=l++[n]:=if_neg h
def dL(l:List Int):List Int:=bE [] l
end Go.CK
namespace Go.CK
open Go.AM Go.Proofs
theorem HA{t:Tm}:Fun Tryz.prog 97 [.sl .no [t.avw]] (.fn (.func 131) [] [.ept [.sl .no [t.avw]]]):=by
 have:=I7 (l:=[t]);simp only[slA,ZP,Yd,Tm.nK] at this;exact this
theorem Dr{k n:Nat}{l:List Int}:aj n [aL (AV.int .i64) 1 k l]=true:=by
 simp only[aL,aj,Bool.and_true,ZS];exact λx hx=>(tL.KV l _ n x hx).2
theorem ah.refl(s:St):ah s s:=⟨aB.refl s⟩
def Jj(own:List Box)(l:List Int)(r:AV)(bs':List Box):Prop:=∃(J:List Box) (k':Nat),l.length<=k'/\aj (own.length+J.length) J=true/\r=.bsl (own.length+J.length) l.length k'/\bs'=own++(J++[aL (AV.int .i64) 1 k' l])
theorem Gk(a:Tm):∀(own:List Box) (l:List Int) (k:Nat),aj own.length own=true->l.length<=k->l.length+a.vs.length<=1000000->
  AM.Sem Tryz.prog 134 [.bsl own.length l.length k,a.avw] (own++[aL (AV.int .i64) 1 k l]) (Jj own (bE l a.vs)):=by
 induction a using Tm.bD with
 |h k n s l ih=>
 intro own l0 k0 ho hk0 hb;generalize ha:Tm.mk k n s l=a at hb|-
 have ih:∀t∈a.args,∀(own:List Box) (l:List Int) (k:Nat),aj own.length own=true->l.length<=k->l.length+t.vs.length<=1000000->
  AM.Sem Tryz.prog 134 [.bsl own.length l.length k,t.avw] (own++[aL (AV.int .i64) 1 k l]) (Jj own (bE l t.vs)):=by subst ha;exact ih
 clear ha;refine Sem.assume λhg0 _=>?_;have hg:=(oe (hg0 a.avw (by simp) rfl)).2.1
 have hgu:a.use.length<=9223372036854775807:=by unfold Tm.use;split<;>simp[hg]
 refine dz (by simp) ?_
 conv=>whnf
 repeat' (first|refine gF (ab.fn (dK) ?_)|(refine gC ?_;first|refine cN ?_|(refine gD ?_;first|refine cI ?_|refine cJ ?_)|refine aq.dec (λhc=>?_) (λhc=>?_))|refine gB (.last ?_))<;>conv=>whnf
 .have hv:=Tm.JL hc;have hu:a.use.length=0:=by unfold Tm.use;rw[if_neg (by omega)];rfl
  refine ab.view (AT (l:=l0) (n:=a.num)) rfl ?_ ?_
  .refine .cons (.row (l:=l0) tL ?_ rfl) (.cons (.same rfl) .nil);simp[aL]
  conv=>whnf
  repeat' (first|refine gF (ab.fn (dK) ?_)|(refine gC ?_;first|refine .not ?_|refine gD (cI ?_)|refine aq.dec (λhc=>?_) (λhc=>?_))|refine gB (.last ?_))<;>conv=>whnf
  .rw [hv,show bE l0 [a.num]=l0 from Eg hc];refine aw.count (fb:=false) 0 (λst_ _=>st_) (λ_=>True) trivial (ah.refl _) (λj hj=>by omega) (λ_=>?_)
   conv=>whnf
   repeat' (first|refine gC (gD (cJ ?_))|refine gL (.map ?_))<;>conv=>whnf
   refine af.y8 (own:=own++[aL (AV.int .i64) 1 k0 l0]) rfl (ZG _) ?_ ?_ ?_
   .simp [mi,AV.lt,AV.lt1,AV.lt0,AV.aU]
   .exact aW (bf (by simp) ho) Dr
   .exact af.slot ⟨[],k0,hk0,rfl,rfl,rfl⟩
  .refine lh.one (l:=l0) tL (by simp[aL]) rfl hk0 (by omega) (λk2 hk2=>?_)
   rw[Gg]
   conv=>whnf
   skip;refine vP.of (cs:=[.int .i64 a.kind,.int .i64 a.num,.str a.name,.sl .no (a.args.map Tm.av)]) (by simp[aa,Box.cs?]) ?_
   conv=>whnf
   repeat' refine gF (ab.fn (dK) ?_)<;>conv=>whnf
   rw[hv,show bE l0 [a.num]=l0++[a.num] from BN hc];refine aw.count (fb:=false) 0 (λst_ _=>st_) (λ_=>True) trivial (ah.refl _) (λj hj=>by omega) (λ_=>?_)
   conv=>whnf
   repeat' (first|refine gC (gD (cJ ?_))|refine gL (.map ?_))<;>conv=>whnf
   refine af.slot ⟨[.dead,.cells [.int .i64 a.kind,.int .i64 a.num,.str a.name,.sl .no (a.args.map Tm.av)]],k2,hk2,rfl,?_,?_⟩
   .simp [St.get,ak]
   .simp
 .refine aw.by (fb:=false) (λst_ (q:Nat×Nat×List Box)=>⟨[(0,.bsl (own.length+q.2.2.length) (bE (l0) (Tm.vss (a.use.take q.1))).length q.2.1),(5,slA Tm.av a.use),(6,.int .i64 q.1)],own++(q.2.2++[aL (AV.int .i64) 1 q.2.1 (bE (l0) (Tm.vss (a.use.take q.1)))]),st_.lo⟩) (λq=>q.1<=a.use.length/\(bE (l0) (Tm.vss (a.use.take q.1))).length<=q.2.1/\aj (own.length+q.2.2.length) q.2.2=true) (λq=>a.use.length-q.1) (0,k0,[]) ⟨ZJ _,by simp[Tm.vss,bE, *],rfl⟩ ?_ ?_
  .refine ah.y8 (own:=own++[aL (AV.int .i64) 1 k0 l0]) rfl (ZG _) ?_ ?_ ?_
   .simp [mi,AV.lt,AV.lt1,AV.lt0,AV.aU]
   .exact aW (bf (by simp) ho) Dr
   .refine ah.atS ?_ rfl rfl
    conv=>whnf
    repeat' (first|(refine gV ?_;first|refine vE ?_|refine vI ?_|(refine WkN.norm ?_ ?_;(focus (simp[AV.norm,AV.aD,Tm.vss,bE];done))))|exact True.intro)<;>conv=>whnf
  .rintro ⟨j,k1,J⟩ ⟨hj1,hj2,hJ⟩;dsimp only at hj1 hj2 hJ|-
   by_cases hlt:j<a.use.length
   .obtain ⟨x,hxj⟩:∃x,a.use[j]? =some x:=⟨_,ZA hlt⟩;have hsp:=Tm.nR hxj;have htk:=Tm.mL hxj;have hle:=congrArg List.length hsp;simp only[ZC] at hle;have hle2:=oo (Tm.vss (a.use.take j)) (l0);have hI:=ih x (yT (ZE hxj)) (own++J) (bE (l0) (Tm.vss (a.use.take j))) k1 (by rw[ZC];exact aW (bf (XK _ _) ho) hJ) hj2 (by rw[Tm.FO hc] at hb;omega)
    rw[ZC,Zg] at hI
    conv=>whnf
    repeat' (first|refine gC (gD (cI ?_))|refine gL (.map ?_)|refine gI (gT (iA ?_)))<;>conv=>whnf
    refine ab.raw hI ?_;rintro r bs' ⟨J2,k2,hk2,hJ2,rfl,rfl⟩
    conv=>whnf
    repeat' refine gW (wI ?_)<;>conv=>whnf
    refine⟨(j+1,k2,J++J2),⟨⟨hlt,?_,?_⟩,by simp only;omega⟩,?_⟩
    .dsimp only;rw[htk,oq];exact hk2
    .dsimp only;rw[ZC,<-Yo];rw[ZC] at hJ2;exact aW (bf (XK _ _) hJ) hJ2
    .dsimp only;rw[htk,oq];refine ah.atS ?_ (by simp) rfl
     conv=>whnf
     repeat' (first|(refine gV ?_;first|refine vE ?_|refine vI ?_|(refine WkN.norm ?_ ?_;(focus (simp[AV.norm,AV.aD,Yo];done))))|exact True.intro)<;>conv=>whnf
   .obtain rfl:j=a.use.length:=by omega
    rw[Zw] at hj2
    conv=>whnf
    repeat' (first|refine gC (gD (cJ ?_))|refine gL (.map ?_))<;>conv=>whnf
    rw[Zw,Tm.FO hc];exact af.slot ⟨J,k1,hj2,hJ,rfl,rfl⟩
theorem EB(a:Tm)(own:List Box)(ho:aj own.length own=true)(hb:a.vs.length<=1000000):AM.Sem Tryz.prog 134 [.sl .full [],a.avw] own (Jj own (bE [] a.vs)):=by
 have ih:∀t∈a.args,∀(own:List Box) (l:List Int) (k:Nat),aj own.length own=true->l.length<=k->l.length+t.vs.length<=1000000->
  AM.Sem Tryz.prog 134 [.bsl own.length l.length k,t.avw] (own++[aL (AV.int .i64) 1 k l]) (Jj own (bE l t.vs)):=λt _=>Gk t
 have hb:([]:List Int).length+a.vs.length<=1000000:=by simpa using hb
 refine Sem.assume λhg0 _=>?_;have hg:=(oe (hg0 a.avw (by simp) rfl)).2.1
 have hgu:a.use.length<=9223372036854775807:=by unfold Tm.use;split<;>simp[hg]
 refine dz (by simp) ?_
 conv=>whnf
 repeat' (first|(refine gF ?_;first|refine ab.fn (dK) ?_|refine ab.fn (AT (l:=[]) (n:=a.num)) ?_)|(refine gC ?_;first|refine cN ?_|refine .not ?_|(refine gD ?_;first|refine cI ?_|refine cJ ?_)|refine aq.dec (λhc=>?_) (λhc=>?_))|refine gB (.last ?_))<;>conv=>whnf
 .cases hc
 .have hv:=Tm.JL (t:=a) (by assumption)
  have hu:a.use.length=0:=by unfold Tm.use;rw[if_neg (by omega)];rfl
  refine lh.GN (l':=[a.num]) tL (by simp) (λk2 hk2=>?_)
  conv=>whnf
  repeat' (first|refine gF (ab.fn (dK) ?_)|refine gB (.last2 ?_))<;>conv=>whnf
  rw[hv,show bE [] [a.num]=[a.num] from rfl];refine aw.count (fb:=false) 0 (λst_ _=>st_) (λ_=>True) trivial (ah.refl _) (λj hj=>by omega) (λ_=>?_)
  conv=>whnf
  repeat' (first|refine gC (gD (cJ ?_))|refine gL (.map ?_))<;>conv=>whnf
  refine af.slot ⟨[.cells [.int .i64 a.kind,.int .i64 a.num,.str a.name,.sl .no (a.args.map Tm.av)]],k2,hk2,rfl,?_,?_⟩
  .simp [St.get,ak]
  .simp
 .refine aw.by (fb:=false) (λst_ (q:Nat×Nat×List Box)=>⟨[(0,.bsl (own.length+q.2.2.length) (bE ([]) (Tm.vss (a.use.take q.1))).length q.2.1),(5,slA Tm.av a.use),(6,.int .i64 q.1)],own++(q.2.2++[aL (AV.int .i64) 1 q.2.1 (bE ([]) (Tm.vss (a.use.take q.1)))]),st_.lo⟩) (λq=>q.1<=a.use.length/\(bE ([]) (Tm.vss (a.use.take q.1))).length<=q.2.1/\aj (own.length+q.2.2.length) q.2.2=true) (λq=>a.use.length-q.1) (0,0,[]) ⟨ZJ _,by simp[Tm.vss,bE, *],rfl⟩ ?_ ?_
  .refine ah.y8 (own:=own) rfl (ZG _) rfl ho ?_;refine ah.wO 0 rfl ?_;refine ah.atS ?_ rfl rfl
   conv=>whnf
   repeat' (first|(refine gV ?_;first|refine vE ?_|refine vI ?_|(refine WkN.norm ?_ ?_;(focus (simp[AV.norm,AV.aD,Tm.vss,bE];done))))|exact True.intro)<;>conv=>whnf
  .rintro ⟨j,k1,J⟩ ⟨hj1,hj2,hJ⟩;dsimp only at hj1 hj2 hJ|-
   by_cases hlt:j<a.use.length
   .obtain ⟨x,hxj⟩:∃x,a.use[j]? =some x:=⟨_,ZA hlt⟩;have hsp:=Tm.nR hxj;have htk:=Tm.mL hxj;have hle:=congrArg List.length hsp;simp only[ZC] at hle;have hle2:=oo (Tm.vss (a.use.take j)) ([]);have hI:=ih x (yT (ZE hxj)) (own++J) (bE ([]) (Tm.vss (a.use.take j))) k1 (by rw[ZC];exact aW (bf (XK _ _) ho) hJ) hj2 (by rw[Tm.FO hc] at hb;omega)
    rw[ZC,Zg] at hI
    conv=>whnf
    repeat' (first|refine gC (gD (cI ?_))|refine gL (.map ?_)|refine gI (gT (iA ?_)))<;>conv=>whnf
    refine ab.raw hI ?_;rintro r bs' ⟨J2,k2,hk2,hJ2,rfl,rfl⟩
    conv=>whnf
    repeat' refine gW (wI ?_)<;>conv=>whnf
    refine⟨(j+1,k2,J++J2),⟨⟨hlt,?_,?_⟩,by simp only;omega⟩,?_⟩
    .dsimp only;rw[htk,oq];exact hk2
    .dsimp only;rw[ZC,<-Yo];rw[ZC] at hJ2;exact aW (bf (XK _ _) hJ) hJ2
    .dsimp only;rw[htk,oq];refine ah.atS ?_ (by simp) rfl
     conv=>whnf
     repeat' (first|(refine gV ?_;first|refine vE ?_|refine vI ?_|(refine WkN.norm ?_ ?_;(focus (simp[AV.norm,AV.aD,Yo];done))))|exact True.intro)<;>conv=>whnf
   .obtain rfl:j=a.use.length:=by omega
    rw[Zw] at hj2
    conv=>whnf
    repeat' (first|refine gC (gD (cJ ?_))|refine gL (.map ?_))<;>conv=>whnf
    rw[Zw,Tm.FO hc];exact af.slot ⟨J,k1,hj2,hJ,rfl,rfl⟩
theorem Cf{t:Tm}(hb:t.vs.length<=100000):Fun Tryz.prog 100 [t.avw] (slA c7 (dL t.vs)):=by
 refine Fun.of (jT (by simp) ?_) rfl rfl
 conv=>whnf
 repeat' refine gB (.last ?_)<;>conv=>whnf
 refine ab.raw (EB t _ rfl (by omega)) ?_
 rintro r bs' ⟨J,k,hk,hJ,rfl,rfl⟩
 conv=>whnf
 skip;refine af.froze (l:=bE [] t.vs) tL rfl (by simp[aL,Nat.add_comm 1]) rfl ?_
 exact af.slot rfl
end Go.CK
