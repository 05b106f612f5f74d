/-
  Texts of this bj joined (wip/gen/bundle.py),those declarations only that are needed:IxH IxI IxJ FunC Read. By an AI agent.
-/
import Derived.Test.YtcjfkbdbcgmomaaGreatDoorBbd
import Derived.Test.YtcjfkbdbcgmomaaGreatDoorRows
import Derived.ProofKit
import Derived.OpenShut
import Derived.ShutString
import Derived.ChangeOld
import Derived.JoinedCond
import Derived.Deep.Slices
import Derived.Lib.SmallJoins
set_option linter.unusedSimpArgs false
set_option linter.unusedVariables false
set_option maxRecDepth 100000
namespace Go.CK
open Go.AM Go.Proofs
structure lq{α:Type}(f:α->AV)(z:Nat):Prop where
 pos:0<z
 sz:∀x,(f x).cells.length=z
 de:∀x,∀c∈(f x).cells,c.aF=c
theorem lq.len{α:Type}{f:α->AV}{z:Nat}(h:lq f z)(l:List α):(cellsOf (l.map f)).length=l.length*z:=by
 rw[bz (z:=z) λy hy=>by obtain⟨x,_,rfl⟩:=zk.1 hy;exact h.sz x,zF]
theorem lq.mem{α:Type}{f:α->AV}{z:Nat}(h:lq f z){l:List α}{c:AV}(hc:c∈cellsOf (l.map f)):c.aF=c:=by
 obtain⟨y,h1,h2⟩:=ma hc;obtain⟨x,_,rfl⟩:=zk.1 h1;exact h.de x c h2
theorem lq.take{α:Type}{f:α->AV}{z:Nat}(h:lq f z)(l:List α)(p:List AV):(cellsOf (l.map f)++p).take (l.length*z)=cellsOf (l.map f):=by
 rw[<-h.len l];simp
theorem FY:lq AV.mpt 1:=⟨Zs,λ_=>rfl,λx c h=>by simp[AV.cells] at h;subst h;rfl⟩
theorem Cn:Plain Ac.av 3:=⟨by decide,λ_=>rfl,λx c h=>by
 simp[Ac.av,AV.cells] at h;rcases h with rfl|rfl|rfl<;>rfl,λx c h=>by
 simp[Ac.av,AV.cells] at h;rcases h with rfl|rfl|rfl<;>rfl⟩
theorem Em{α:Type}{f:α->AV}{z:Nat}(h:Plain f z):lq f z:=⟨h.pos,h.sz,h.de⟩
theorem CL{α:Type}{f:α->AV}{z:Nat}(hp:lq f z){e:List (Nat×AV)}{bs:List Box}{lo:Nat}{b m k b2 m2 k2:Nat}{l l2:List α}{K:AV->St->Prop}(hb:bs[b]? =some (bh f z k l))(hb2:bs[b2]? =some (bh f z k2 l2))(hm:m=l.length)(hm2:m2=l2.length)(hk:m<=k)(hlim:m+m2<=4294967296)
  (h:∀k',(l++l2).length<=k'->K (.bsl bs.length (l++l2).length k') ⟨e,bs.set b .dead++[bh f z k' (l++l2)],lo⟩):uC z ⟨e,bs,lo⟩ (.bsl b m k) (.bsl b2 m2 k2) K:=by
 subst hm hm2;refine⟨xx hb ?_⟩;have hr2:AM.rowAt bs b2=some (cellsOf (l2.map f)++List.replicate ((k2-l2.length)*z) AV.top):=fY hb2;simp only[uw,hr2];rw[hp.take,hp.take];refine⟨⟨by rw[zC,hp.len];exact Zw _ _,λx hx=>hp.mem hx⟩,⟨hp.pos,?_,hlim,λx hx=>hp.mem hx⟩,λk' hk'=>?_⟩
 .rw [zC,hp.len,zf,<-ZL];exact ZE _ (by omega)
 .rw [<-zg,<-ib,<-zu];have:=h k' (by simpa using hk')
  simp only[zC] at this;unfold bh at this;simp only[zC] at this;exact this
theorem z7{B:List Box}{a:Nat}{r:Box}{b:Nat}(hb:b≠a)(hl:b<B.length):cellsD (B.set a .dead++[r]) b=cellsD B b:=by
 simp only[cellsD,aa];rw[zK (by rw[zm];exact hl),Zd (Ne.symm hb)]
theorem aG.DX(s:St)(b:Nat)(hb:s.bs[b]? =some (.mp [])):aG s ⟨s.env,s.bs.set b (.tab ⟨[],0,[]⟩),s.lo⟩:=λE G a w h=>by
 have hlt:=(zB.1 hb).1;refine⟨G,h.o8 (λc=>?_) (λc=>?_) (by simp)⟩
 .exact mD hb rfl rfl c
 .rw [cw hb rfl];split
  .rename_i e;subst e;simp[ai,hb,Box.lb?];rfl
  .rfl
theorem aG.kill(s:St)(b:Nat):aG s ⟨s.env,s.bs.set b .dead,s.lo⟩:=λE G a w hs=>by
 have h1:=hs.reb (bs':=s.bs.set b .dead) (σ':=G.σ) id (by simp) (λ_ _=>rfl) (λc x hc=>fT hc) (λc cs' hc=>by
   rw[bF] at hc;split at hc
   .cases hc
   .exact ⟨cs',hc,rfl,zG _,λj x hx=>.inr ⟨hx,.inl rfl⟩⟩) (λb b' cs cs' _ _ e=>e)
 exact⟨_,h1⟩
theorem ak.kill{s:St}{rs:List ej}{Q:AV->List Box->Prop}(b:Nat)(h:ak ⟨s.env,s.bs.set b .dead,s.lo⟩ rs Q):ak s rs Q:=by
 obtain⟨s',h3,h4⟩:=h.out;exact⟨s',(aG.kill s b).trans h3,h4⟩
theorem aq.DX{s t:St}(b:Nat)(hb:s.bs[b]? =some (.mp []))(h:aq ⟨s.env,s.bs.set b (.tab ⟨[],0,[]⟩),s.lo⟩ t):aq s t:=⟨(aG.DX s b hb).trans h.out⟩
structure xq(bs:List Box)(t k:Nat)(cs:List Nat):Prop where
 row:bs[t]? =some (bh AV.mpt 1 k cs)
 le:cs.length<=k
 few:cs.length<=10000000
 tab:∀c∈cs,∃x l,bs[c]? =some (.tab x)/\xp x l
structure tU(bs:List Box)(p:Nat)(A:AV)(t k:Nat)(cs:List Nat):Prop where
 str:bs[p]? =some (.cells [A,.sl .full [],.bsl t cs.length k])
 tabs:xq bs t k cs
theorem aq.xG{env:List (Nat×AV)}{bs:List Box}{lo p j:Nat}{cs:List AV}{t:St}(hb:bs[p]? =some (.cells cs))(hj:cs[j]? =some (.sl .full []))(h:aq ⟨env,bs.set p (.cells (cs.set j (.bsl bs.length 0 0)))++[.row []],lo⟩ t):aq ⟨env,bs,lo⟩ t:=by
 have hlt:=(zB.1 hb).1;have hc:aa bs p=some cs:=by simp[aa,hb,Box.cs?]
 have hc2:aa (bs++[.row []]) p=some cs:=by simp[aa,zK hlt,hb,Box.cs?]
 refine aq.qV (.bx p j) (by simp[St.at,hc,hj]) (by simp[St.at,hc2,hj]) ?_
 have e:(⟨env,bs++[.row []],lo⟩:St).upd (.bx p j) (.bsl bs.length 0 0)=⟨env,bs.set p (.cells (cs.set j (.bsl bs.length 0 0)))++[.row []],lo⟩:=by
  simp only[St.upd,hc2,St.bn];rw[List.set_append_left _ _ hlt]
 show aq ((⟨env,bs++[.row []],lo⟩:St).upd (.bx p j) (.bsl bs.length 0 0)) t;rw[e];exact h
def Pre(bs b2:List Box):Prop:=bs.length<=b2.length/\∀b,b<bs.length->b2[b]? =bs[b]?
theorem Pre.app{bs b2:List Box}(h:Pre bs b2):∃X,b2=bs++X:=by
 refine⟨b2.drop bs.length,List.ext_getElem? λi=>?_⟩
 by_cases hi:i<bs.length
 .rw [zK hi];exact h.2 i hi
 .rw [zZ (by omega),List.getElem?_drop]
  congr 1;omega
theorem xq.ff{bs:List Box}{t k c:Nat}{cs:List Nat}{x x':TB}{l:List TR}(h:xq bs t k cs)(hb:bs[c]? =some (.tab x))(hx:xp x' l):xq (bs.set c (.tab x')) t k cs:=by
 have hlt:=(zB.1 hb).1;refine⟨?_,h.le,h.few,λd hd=>?_⟩
 .rw [Zd (λe=>by
   have:=h.row;rw[<-e,hb] at this;cases this)]
  exact h.row
 .by_cases e:c=d
  .subst e;exact⟨x',l,by simp[hlt],hx⟩
  .obtain ⟨y,m,h1,h2⟩:=h.tab d hd;exact⟨y,m,by rw[Zd e];exact h1,h2⟩
theorem tU.ff{bs:List Box}{p t k c:Nat}{A:AV}{cs:List Nat}{x x':TB}{l:List TR}(h:tU bs p A t k cs)(hc:c∈cs)(hb:bs[c]? =some (.tab x))(hx:xp x' l):tU (bs.set c (.tab x')) p A t k cs:=
 ⟨by
  rw[Zd (λe=>by
   have:=h.str;rw[<-e,hb] at this;cases this)]
  exact h.str,h.tabs.ff hb hx⟩
set_option maxHeartbeats 1000000 in
theorem uc{bs:List Box}{p t k:Nat}{A:AV}{cs:List Nat}(h:tU bs p A t k cs):AM.Sem Tryz.prog 46 [.ptr p 0] bs λr bs'=>r=.tup []/\bs'.length=bs.length/\tU bs' p A t k cs/\∀b,b∉cs->bs'[b]? =bs[b]?:=by
 refine iv (by simp) ?_
 conv=>whnf
 try dsimp only
 skip;refine kD.of (cs:=[A,.sl .full [],.bsl t cs.length k]) (by simp[aa,h.str,Box.cs?]) ?_
 conv=>whnf
 try dsimp only
 skip;refine az.by (fb:=false) (λst_ (a:Nat×List Box)=>⟨[(0,.ptr p 0),(9,.bsl t cs.length k),(10,.int .i64 cs.length),(11,.int .i64 (a.1:Int))],a.2,bs.length⟩) (λa=>a.1<=cs.length/\a.2.length=bs.length/\tU a.2 p A t k cs/\∀b,b∉cs->a.2[b]? =bs[b]?) (λa=>cs.length-a.1) (0,bs) ⟨zJ _,rfl,h,λ_ _=>rfl⟩ ?_ ?_
 .refine aq.atS ?_ rfl rfl
  conv=>whnf
  repeat' (first|(refine gV ?_;first|refine vE ?_|refine vI ?_)|exact True.intro)<;>conv=>whnf
 .rintro ⟨j,b2⟩ ⟨q1,q2,q3,q4⟩;have hf:=h.tabs.few;dsimp only at q1 q2 q3 q4
  conv=>whnf
  try dsimp only
  repeat' (first|(refine gC ?_;refine ae.lt (λhc=>?_) (λhc=>?_))|refine gN (nS ?_))<;>(conv=>whnf;try dsimp only)
  .obtain ⟨c,hcj⟩:∃c,cs[j]? =some c:=⟨_,zA (by omega)⟩
   have hcm:=zE hcj;obtain⟨x,l,hx1,hx2⟩:=q3.tabs.tab c hcm;refine ElN.one (λ_=>⟨rfl,rfl⟩) (l:=cs) (x:=c) q3.tabs.row (by simpa using hcj) ?_
   conv=>whnf
   try dsimp only
   skip;refine⟨⟨c,x,rfl,hx1,hx2.jB,λx' hx'=>?_⟩⟩
   conv=>whnf
   try dsimp only
   repeat' refine gW (wI ?_)<;>(conv=>whnf;try dsimp only)
   refine⟨(j+1,b2.set c (.tab x')),⟨⟨by dsimp only;omega,by simpa using q2,q3.ff hcm hx1 hx',λb hb=>by
    show (b2.set c (.tab x'))[b]? =bs[b]?;rw[Zd (λe=>hb (by rw[<-e];exact hcm))];exact q4 b hb⟩,by dsimp only;omega⟩,?_⟩
   refine aq.atS ?_ rfl rfl
   conv=>whnf
   repeat' (first|(refine gV ?_;first|refine vE ?_|refine vI ?_)|exact True.intro)<;>conv=>whnf
  .refine kD.of (cs:=[A,.sl .full [],.bsl t cs.length k]) (by simp[aa,q3.str,Box.cs?]) ?_
   conv=>whnf
   try dsimp only
   repeat' refine gL (.nil ?_)<;>(conv=>whnf;try dsimp only)
   refine az.by (fb:=false) (λst_ (a:Unit)=>⟨[(0,.ptr p 0),(20,.sl .no []),(21,.int .i64 0),(22,.int .i64 0)],b2,bs.length⟩) (λa=>True) (λa=>0) () trivial ?_ ?_
   .refine aq.atS ?_ rfl rfl
    conv=>whnf
    repeat' (first|(refine gV ?_;first|refine vE ?_|(refine WkN.norm ?_ ?_;(focus (simp[AV.norm,AV.aj,];done))))|exact True.intro)<;>conv=>whnf
   .rintro _ _
    conv=>whnf
    try dsimp only
    repeat' refine gC (gD (cJ ?_))<;>(conv=>whnf;try dsimp only)
    exact⟨_,aG.refl _,.inl ⟨rfl,q2,q3,q4⟩⟩
set_option maxHeartbeats 1000000 in
theorem C8{bs:List Box}{l:List Ac}(hl:l.length<=1000000)(hp:∀a∈l,a.positions.length<=1000000)(hr:∀a∈l,a.right=true)(hbb:al bs.length bs=true):AM.Sem Tryz.prog 11 [.sl .no [],slA Ac.av l] bs λr bs'=>r=.tup [.ptr bs.length 0,.int .i64 0]/\bs'=bs++[.dead]:=by
 have hcn:=tt (l:=l) (by omega) λa ha=>by have:=hp a ha;omega
 rw[show (l.any λx=>!x.right)=false from List.any_eq_false.2 λx hx=>by simp[hr x hx]] at hcn
 refine uq (by simp) ?_
 conv=>whnf
 try dsimp only
 repeat' (first|(refine gF ?_;first|refine ag.fn (ua) ?_|refine ag.fn (hcn) ?_)|(refine gC ?_;first|refine cY ?_|refine cN ?_|refine .not ?_)|refine gL (.map ?_))<;>(conv=>whnf;try dsimp only)
 refine az.by (fb:=false) (λst_ (a:Nat×List Box)=>⟨[(0,.sl .no []),(6,.ptr bs.length 0),(20,slA Ac.av l),(21,.int .i64 l.length),(22,.int .i64 (a.1:Int))],a.2,bs.length⟩)
  (λa=>a.1<=l.length/\∃ra ka t k cs,cs.length=a.1/\tU a.2 bs.length (.bsl ra a.1 ka) t k cs/\Pre bs a.2/\bs.length<ra/\ra≠t/\a.2[ra]? =some (bh Ac.av 3 ka (l.take a.1))/\a.1<=ka/\bs.length<t/\∀c∈cs,bs.length<c)
  (λa=>l.length-a.1) (0,bs++[.cells [.bsl (bs.length+1) 0 0,.sl .full [],.bsl (bs.length+2) 0 0],.row [],.row []]) ⟨zJ _,bs.length+1,0,bs.length+2,0,[],rfl,⟨by simp,⟨by simp[bh,cellsOf],zG _,zJ _,λc hc=>by cases hc⟩⟩,⟨by simp,λb hb=>by rw[zK hb]⟩,by omega,by omega,by simp[bh,cellsOf],zG _,by omega,λc hc=>by cases hc⟩ ?_ ?_
 .refine aq.xG (p:=bs.length) (j:=0) (cs:=[.sl .full [],.sl .full [],.sl .full []]) (by simp) rfl ?_
  rw[yH _ _ (zG _),yE];refine aq.xG (p:=bs.length) (j:=2) (cs:=[.bsl (bs++[Box.cells [AV.sl .full [],.sl .full [],.sl .full []]]).length 0 0,.sl .full [],.sl .full []]) (by simp) rfl ?_
  simp only[zC,zX,ZP,List.set_cons_zero,List.set_cons_succ,zg];rw[yH _ _ (zG _),yE];simp only[List.set_cons_zero,List.set_cons_succ,zg,ze,List.nil_append];exact⟨aG.refl _⟩
 .rintro ⟨j,b2⟩ ⟨q1,ra,ka,t,k,cs,q2,q3,q4,q5,q6,q7,q8,q9,q10⟩;dsimp only at q1 q2 q3 q4 q5 q6 q7 q8 q9 q10;have hpj:∀x,l[j]? =some x->x.positions.length<=1000000:=λx hx=>hp x (zE hx)
  conv=>whnf
  try dsimp only
  repeat' (first|(refine gC ?_;refine ae.lt (λhc=>?_) (λhc=>?_))|refine gL (.nil ?_)|(refine gI ?_;(refine gM ?_;refine iH λx hx=>?_))|refine gB (.last ?_)|refine aA.last ?_)<;>(conv=>whnf;try dsimp only)
  .conv=>whnf
   try dsimp only
   repeat' (first|(refine gF ?_;refine ag.fn (Dx (l:=x.positions) (by have:=hpj x hx;omega)) ?_)|refine gB (.last ?_)|refine aA.last ?_)<;>(conv=>whnf;try dsimp only)
   have hlt:bs.length<b2.length:=(zB.1 q3.str).1;have hstr:aa b2 bs.length=some [.bsl ra j ka,.sl .full [],.bsl t cs.length k]:=by simp[aa,q3.str,Box.cs?]
   refine kD.of (by rw[aI,if_neg (by omega)];exact hstr) ?_
   conv=>whnf
   try dsimp only
   repeat' refine gB (.last ?_)<;>(conv=>whnf;try dsimp only)
   refine B3.one Cn (λy=>⟨rfl,rfl⟩) (x:=x) rfl ?_
   conv=>whnf
   try dsimp only
   repeat' refine gPr (pT ?_)<;>(conv=>whnf;try dsimp only)
   have hra:=(zB.1 q7).1;have ht:=(zB.1 q3.tabs.row).1;refine CL (Em Cn) (l:=l.take j) (l2:=[x]) (k:=ka) (k2:=1) (by rw[zg,zK hra];exact q7) (by simp) (by simp;omega) rfl q8 (by omega) λk1 hk1=>?_
   conv=>whnf
   refine⟨.inr ?_,?_⟩
   .conv=>whnf
    repeat' first|exact True.intro|refine And.intro (z7 (by omega) (by first|(simp;done)|(simp;omega))) ?_
   conv=>whnf
   try dsimp only
   skip;obtain⟨B4,hB4⟩:∃B4,B4=(b2++[Box.cells [AV.str x.name,AV.int IntKind.i64 x.arity,AV.sl Cap.no (List.map aK x.positions)]]++[bh Ac.av 3 1 [x]]).set ra Box.dead++[bh Ac.av 3 k1 (List.take j l++[x])]:=⟨_,rfl⟩;have hlen4:B4.length=b2.length+3:=by rw[hB4];simp
   have hold4:∀b,b<b2.length->b≠ra->B4[b]? =b2[b]?:=λb hb hne=>by
    rw[hB4,zK (by simp;omega),Zd (Ne.symm hne),zg,zK hb]
   have hrow4:B4[b2.length+2]? =some (bh Ac.av 3 k1 (l.take (j+1))):=by
    rw[hB4,zZ (by simp),ZC,hx]
    simp
   rw[show (b2++[Box.cells [AV.str x.name,AV.int IntKind.i64 x.arity,AV.sl Cap.no (List.map aK x.positions)]]++[bh Ac.av 3 1 [x]]).length=b2.length+2 by simp,<-hB4]
   have hl1:(List.take j l++[x]).length=j+1:=by simp;omega
   rw[hl1] at hk1|-;clear hB4;refine kD.of (cs:=[.bsl ra j ka,.sl .full [],.bsl t cs.length k]) (by simp[aa,hold4 bs.length hlt (by omega),q3.str,Box.cs?]) ?_
   conv=>whnf
   try dsimp only
   skip;refine⟨?_⟩;obtain⟨B5,hB5⟩:∃B5,B5=B4.set bs.length (Box.cells [AV.bsl (b2.length+2) (j+1) k1,AV.sl Cap.full [],AV.bsl t cs.length k]):=⟨_,rfl⟩;rw[<-hB5];have hlen5:B5.length=b2.length+3:=by rw[hB5,zm,hlen4]
   have hstr5:B5[bs.length]? =some (.cells [.bsl (b2.length+2) (j+1) k1,.sl .full [],.bsl t cs.length k]):=by rw[hB5];simp[zq];omega
   have hold5:∀b,b≠bs.length->B5[b]? =B4[b]?:=λb hb=>by rw[hB5,Zd (Ne.symm hb)]
   clear hB5
   conv=>whnf
   try dsimp only
   skip;refine kD.of (cs:=[.bsl (b2.length+2) (j+1) k1,.sl .full [],.bsl t cs.length k]) (by simp[aa,hstr5,Box.cs?]) ?_
   conv=>whnf
   try dsimp only
   skip;refine B3.mpt (c:=B5.length) rfl ?_
   conv=>whnf
   try dsimp only
   skip
   have htr5:B5[t]? =some (bh AV.mpt 1 k cs):=by
    rw[hold5 t (by omega),hold4 t ht (Ne.symm q6)];exact q3.tabs.row
   have htl5:t<B5.length:=by omega
   refine CL FY (l:=cs) (l2:=[B5.length]) (k:=k) (k2:=1) (by rw[zg,zK htl5];exact htr5) (by simp) rfl rfl q3.tabs.le (by omega) λk2 hk2=>?_
   conv=>whnf
   try dsimp only
   skip;obtain⟨B6,hB6⟩:∃B6,B6=(B5++[Box.mp []]++[bh AV.mpt 1 1 [B5.length]]).set t Box.dead++[bh AV.mpt 1 k2 (cs++[B5.length])]:=⟨_,rfl⟩;have hlen6:B6.length=B5.length+3:=by rw[hB6];simp
   have hold6:∀b,b<B5.length->b≠t->B6[b]? =B5[b]?:=λb hb hne=>by
    rw[hB6,zK (by simp;omega),Zd (Ne.symm hne),zg,zK hb]
   have hrow6:B6[B5.length+2]? =some (bh AV.mpt 1 k2 (cs++[B5.length])):=by
    rw[hB6,zZ (by simp)]
    simp
   have hmp6:B6[B5.length]? =some (.mp []):=by
    rw[hB6,zK (by simp),Zd (by omega),zg,zZ (zG _)]
    simp
   rw[show (B5++[Box.mp []]++[bh AV.mpt 1 1 [B5.length]]).length=B5.length+2 by simp,<-hB6]
   clear hB6;refine kD.of (cs:=[.bsl (b2.length+2) (j+1) k1,.sl .full [],.bsl t cs.length k]) (by simp[aa,hold6 bs.length (by omega) (by omega),hstr5,Box.cs?]) ?_
   conv=>whnf
   try dsimp only
   skip;refine⟨?_⟩;obtain⟨B7,hB7⟩:∃B7,B7=(B6.set bs.length (Box.cells [AV.bsl (b2.length+2) (j+1) k1,AV.sl Cap.full [],AV.bsl (B5.length+2) (cs++[B5.length]).length k2])):=⟨_,rfl⟩;rw[<-hB7];have hlen7:B7.length=b2.length+6:=by rw[hB7,zm];omega
   have hstr7:B7[bs.length]? =some (.cells [.bsl (b2.length+2) (j+1) k1,.sl .full [],.bsl (B5.length+2) (cs++[B5.length]).length k2]):=by rw[hB7];simp[zq];omega
   have hold7:∀b,b≠bs.length->B7[b]? =B6[b]?:=λb hb=>by rw[hB7,Zd (Ne.symm hb)]
   clear hB7
   conv=>whnf
   try dsimp only
   repeat' refine gW (wI ?_)<;>(conv=>whnf;try dsimp only)
   have hmp7:B7[B5.length]? =some (.mp []):=by rw[hold7 _ (by omega)];exact hmp6
   have hb2:∀b,b<b2.length->b≠bs.length->b≠ra->b≠t->(B7.set B5.length (.tab ⟨[],0,[]⟩))[b]? =b2[b]?:=λb h1 h2 h3 h4=>by
    rw[Zd (by omega),hold7 b h2,hold6 b (by omega) h4,hold5 b h2,hold4 b h1 h3]
   refine⟨(j+1,B7.set B5.length (.tab ⟨[],0,[]⟩)),⟨⟨?_,b2.length+2,k1,B5.length+2,k2,cs++[B5.length],?_,⟨?_,⟨?_,?_,?_,?_⟩⟩,?_,?_,?_,?_,?_,?_,?_⟩,?_⟩,?_⟩
   .dsimp only;omega
   .simp [q2]
   .dsimp only;rw[Zd (by omega)]
    exact hstr7
   .dsimp only;rw[Zd (by omega),hold7 _ (by omega)]
    exact hrow6
   .simpa using hk2
   .simp;omega
   .intro c hc;dsimp only;rcases zY.1 hc with hc|hc
    .obtain ⟨y,m,h1,h2⟩:=q3.tabs.tab c hc;have hcl:=(zB.1 h1).1;have hcp:=q10 c hc;refine⟨y,m,?_,h2⟩;rw[hb2 c hcl (by omega) (λe=>by rw[e,q7] at h1;cases h1) (λe=>by rw[e,q3.tabs.row] at h1;cases h1)]
     exact h1
    .simp at hc;subst hc;exact⟨⟨[],0,[]⟩,[],by rw[List.getElem?_set_self (by omega)],⟨rfl,(λ_ h=>by cases h),(λ_ h=>by cases h),List.nodup_nil,List.nodup_nil,(λ_ h=>by cases h)⟩⟩
   .refine ⟨by dsimp only;rw[zm];omega,λb hb=>?_⟩
    dsimp only;rw[hb2 b (by have:=q4.1;omega) (by omega) (by omega) (by omega)]
    exact q4.2 b hb
   .omega
   .omega
   .dsimp only;rw[Zd (by omega),hold7 _ (by omega),hold6 _ (by omega) (by omega),hold5 _ (by omega)]
    exact hrow4
   .exact hk1
   .omega
   .intro c hc;rcases zY.1 hc with hc|hc
    .exact q10 c hc
    .simp at hc;omega
   .dsimp only;omega
   .refine aq.DX B5.length hmp7 ?_;refine aq.atS ?_ rfl rfl
    conv=>whnf
    repeat' (first|(refine gV ?_;first|refine vE ?_|refine vI ?_)|exact True.intro)<;>conv=>whnf
  .refine az.by (fb:=false) (λst_ (a:Unit)=>⟨[(6,.ptr bs.length 0),(51,.sl .no []),(52,.int .i64 0),(53,.int .i64 0)],b2,bs.length⟩) (λa=>True) (λa=>0) () trivial ?_ ?_
   .refine aq.atS ?_ rfl rfl
    conv=>whnf
    repeat' (first|refine gV (vE ?_)|exact True.intro)<;>conv=>whnf
   .rintro _ _
    conv=>whnf
    try dsimp only
    repeat' refine gC (gD (cJ ?_))<;>(conv=>whnf;try dsimp only)
    refine ag.raw (uc q3) ?_;rintro r b3 ⟨rfl,r1,r2,r3⟩
    conv=>whnf
    try dsimp only
    skip
    have hpre:Pre bs b3:=⟨by rw[r1];exact q4.1,λb hb=>by
     rw[r3 b (λhc=>by have:=q10 b hc;omega)];exact q4.2 b hb⟩
    obtain⟨X,hX⟩:=hpre.app;have hlt3:bs.length<b3.length:=(zB.1 r2.str).1
    have htk:(b3.set bs.length .dead).take (bs.length+1)=bs++[.dead]:=by
     rw[hX,yH _ _ (zG _),yE]
     cases X with
     |nil=>rw[hX] at hlt3;simp at hlt3
     |cons y X=>
      rw[List.take_append,zl (by omega),Nat.add_sub_cancel_left]
      rfl
    refine ak.kill bs.length ?_;refine ak.cut (bs.length+1) (Nat.le_succ _) (by simp;omega) ?_ (by rw[htk];exact aT (aY (Nat.le_succ _) hbb) rfl) ?_
    .simp [eo,AV.lt,AV.lt1,AV.lt0,AV.aW]
    rw[htk];exact⟨_,aG.refl _,.inl ⟨rfl,rfl⟩⟩
end Go.CK
namespace Go.CK
open Go.AM Go.Proofs
theorem uL{ds:List Dc}:∀{l:List Rl} {i:Int},(lT ds l i).2=0->∀r∈l,oi ds r=0
 |[],_,_,r,hr=>by cases hr
 |x::l,i,h,r,hr=>by
  rw[lT] at h;split at h
  .rename_i hx;rcases zI.1 hr with rfl|hr
   .exact hx
   .exact uL h r hr
  .rename_i hx;exact absurd h hx
theorem y6{p:Pg}(h:(nW p).2=0):p.rules.length<=40/\∀r∈p.rules,oi p.decls r=0:=by
 unfold nW at h;split at h
 .split at h
  .split at h
   .rename_i h40;exact⟨h40,uL h⟩
   .simp at h
  .rename_i hd;exact absurd h hd
 .simp at h
theorem xF{ds:List Dc}{r:Rl}(h:oi ds r=0):r.few/\r.ah.length<=4:=by
 unfold oi at h;split at h
 .rename_i hf;split at h
  .rename_i hh;split at h
   .rename_i hg;simp only[E9,zD,decide_eq_true_eq] at hf;obtain⟨f1,f2,f3,f4⟩:=hf;have hhl:=r.bK;exact⟨⟨by omega,by omega,f3,f4,λh' hh'=>zT.1 hh h' hh',λg hg'=>zT.1 hg g hg'⟩,f2⟩
   .simp at h
  .simp at h
 .simp at h
theorem Cz{r:Rl}(h:r.few)(h4:r.ah.length<=4):r.ok2:=by
 have hhl:=r.bK;refine⟨by omega,λx hx=>?_⟩
 obtain⟨_,h1,h2⟩:=At.a7 (h.ah x hx);exact⟨by omega,h2,λt ht=>ZN (FF ht) h2⟩
theorem Gr{r:Rl}(h:r.few):r.okG:=⟨by have:=h.guard;omega,λg hg=>by
 have:=(Gl.a7 (h.goals g (ZB _ hg))).2;omega⟩
structure Pg.chk(p:Pg):Prop where
 rules:p.rules.length<=40
 few:∀r∈p.rules,r.few
 ah:∀r∈p.rules,r.ah.length<=4
theorem HH{p:Pg}(h:(nW p).2=0):p.chk:=by
 obtain⟨h1,h2⟩:=y6 h;exact⟨h1,λr hr=>(xF (h2 r hr)).1,λr hr=>(xF (h2 r hr)).2⟩
theorem Pg.chk.fit{p:Pg}(h:p.chk):p.fit:=⟨λr hr=>⟨by have:=h.ah r hr;have:=r.bK;omega,r.bK⟩,λr hr=>Cz (h.few r hr) (h.ah r hr),λr hr=>Gr (h.few r hr),by have:=h.rules;omega⟩
theorem Pg.chk.ok8{p:Pg}(h:p.chk):p.ok8:=λr hr=>by have:=h.ah r hr;have:=r.bK;omega
theorem Aw{l:List Rl}(h:∀r∈l,r.ah.length<=4):∀j,(fV l j).length<=4*j
 |0=>zG _
 |j+1=>by
  have:=Aw h j;simp only[fV,zC];split
  .simp;omega
  .rename_i x hx;have:=h x (zE hx);rw[sD];omega
theorem Pg.chk.occs{p:Pg}(h:p.chk):p.occs.length<=160:=by
 have h1:=Aw h.ah p.rules.length;have h2:=h.rules;simp only[Pg.occs,zF];omega
structure Fz(p:Pg)(x:Pl):Prop where
 ex:∃r,p.rules[x.occ.rule.toNat]? =some r/\0<=x.occ.rule/\x.occ.rule<p.rules.length/\x.order.length<=4/\(∀h∈x.order,0<=h/\h<r.ah.length)/\x.known.length=x.order.length/\
  ∀(k:Nat) (h:Int),x.order[k]? =some h->x.known[k]? =some (bc r (x.occ.head::x.order.take k) h)
theorem qn{r:Rl}{o:Int}{order:List Int}:∀{n k:Nat} {h:Int},n<=order.length->k<n->order[k]? =some h->(dv r o order n)[k]? =some (bc r (o::order.take k) h)
 |n+1,k,h,hn,hk,hh=>by
  rw[nP (zA hn)];have hl:=e8 (r:=r) (o:=o) (order:=order) (k:=n) (by omega)
  by_cases e:k<n
  .rw [zK (by omega)]
   exact qn (by omega) e hh
  .obtain rfl:k=n:=by omega
   rw[zZ (by omega),hl,yE]
   have:=(zB.1 hh).2;simp[this]
theorem xV{p:Pg}(hp:p.chk):∀x∈allI p,Fz p x:=λx hx=>by
 obtain⟨o,ho,rfl⟩:=zk.1 hx;obtain⟨r,h1,h2,h3,h4,h5⟩:=x5 ho;have hlt:=(zB.1 h1).1;have hrh:=hp.ah r (zE h1);have hper:=qk (r:=r) (keys:=oJ p) h3 h4;have hpl:=hper.length_eq;rw[zX,n9] at hpl
 have he:ofI p (oJ p) o=El r o (jt r (oJ p) o.head):=by
  rw[ofI,if_pos ho,h1]
 rw[he];refine⟨r,h1,h2,by show o.rule<_;omega,by show (jt r (oJ p) o.head).length<=4;omega,λh hh=>?_,e8 (zG _),λk h hk=>?_⟩
 .exact Cb (hper.mem_iff.1 (zR _ hh))
 .exact qn (zG _) (zB.1 hk).1 hk
theorem Fz.head{p:Pg}{x:Pl}(h:Fz p x){k:Nat}{n:Int}(hk:x.order[k]? =some n):∃r g,p.rules[x.occ.rule.toNat]? =some r/\r.ah[n.toNat]? =some g/\0<=n/\x.known[k]? =some (bc r (x.occ.head::x.order.take k) n)/\cC p x k=some (g,bc r (x.occ.head::x.order.take k) n):=by
 obtain⟨r,h1,h2,h3,h4,h5,h6,h7⟩:=h.ex;have hkl:=(zB.1 hk).1;obtain⟨q1,q2⟩:=h5 n (zE hk);obtain⟨g,hg⟩:∃g,r.ah[n.toNat]? =some g:=⟨_,zA (by omega)⟩
 have h8:=h7 k n hk;refine⟨r,g,h1,hg,q1,h8,?_⟩;rw[cC,if_neg (by omega),h1,Zk,hk]
 simp only[if_neg (show¬(n<0\/(r.ah.length:Int)<=n) by omega),hg,h8,ZR]
 rw[if_pos (by omega)]
theorem Fz.Gm{p:Pg}{x:Pl}{k:Int}{y:At×List Int}(h:cC p x k=some y):∃(j:Nat) (n:Int),k=j/\x.order[j]? =some n:=by
 unfold cC at h;split at h
 .cases h
 .rename_i hc;refine⟨k.toNat,x.order[k.toNat]'(by omega),by omega,zA _⟩
theorem sg(p:Tm->Bool)(l:List Tm):∀j,∀x∈bu p l j,0<=x
 |0,x,h=>by cases h
 |j+1,x,h=>by
  rw[bu] at h;rcases zY.1 h with h|h
  .exact sg p l j x h
  .split at h
   .split at h
    .simp at h;omega
    .cases h
   .cases h
theorem Cm{n:Int}:∀{l:List Int} {last:Int},l.Pairwise (·<·)->(∀x∈l,last<x/\x<n)->xU n last l=true
 |[],_,_,_=>rfl
 |x::l,last,hp,hx=>by
  rw[ZA] at hp;obtain⟨h1,h2⟩:=hx x (zV ..);rw[xU,decide_eq_true h1,decide_eq_true h2,Cm hp.2 λy hy=>⟨hp.1 y hy,(hx y (zR _ hy)).2⟩];rfl
theorem vf{r:Rl}{done:List Int}{n:Int}{g:At}(hn:0<=n)(hg:r.ah[n.toNat]? =some g):∀x∈bc r done n,0<=x/\x<g.args.length:=λx hx=>by
 rw[bc,if_neg (by omega),hg] at hx
 exact⟨sg _ _ _ x hx,nH _ _ _ x hx⟩
theorem B0{r:Rl}{done:List Int}{n:Int}{g:At}(hn:0<=n)(hg:r.ah[n.toNat]? =some g)(hr:g.right=true):(fy g (bc r done n)).right=true:=by
 obtain⟨h1,h2,_⟩:=At.a7 hr;have hin:=vf (done:=done) hn hg;have:=Cm (n:=(g.args.length:Int)) (last:=-1) (Br r done n) λx hx=>⟨by have:=(hin x hx).1;omega,(hin x hx).2⟩
 simp only[fy,Ac.right,zD,decide_eq_true_eq];exact⟨h1,decide_eq_true (Int.natCast_nonneg _),decide_eq_true (by exact_mod_cast h2),this⟩
theorem BW{p:Pg}{x:Pl}{out:List Ac}{k:Int}{a:Ac}(h:a∈ij p x out k):a∈out\/∃y,cC p x k=some y/\a=fy y.1 y.2:=by
 unfold ij at h;split at h
 .rename_i y hy;split at h
  .rcases zY.1 h with h|h
   .exact .inl h
   .simp at h;exact .inr ⟨y,hy,h⟩
  .exact .inl h
 .exact .inl h
theorem Az{p:Pg}{x:Pl}{out:List Ac}{a:Ac}:∀{k:Nat},a∈ll p x out k->a∈out\/∃(k':Int) (y:At×List Int),cC p x k'=some y/\a=fy y.1 y.2
 |0,h=>.inl h
 |k+1,h=>by
  rcases BW h with h|⟨y,h1,h2⟩
  .exact Az h
  .exact .inr ⟨_,y,h1,h2⟩
theorem tP{p:Pg}{l:List Pl}{a:Ac}:∀{j:Nat},a∈ie p l j->∃x∈l,∃(k':Int) (y:At×List Int),cC p x k'=some y/\a=fy y.1 y.2
 |0,h=>by cases h
 |j+1,h=>by
  rw[ie] at h;split at h
  .rename_i x hx;rcases Az h with h|h
   .exact tP h
   .exact ⟨x,zE hx,h⟩
  .exact tP h
theorem AD{p:Pg}(hp:p.chk):∀a∈ew p (allI p),a.right=true/\a.positions.length<=6:=λa ha=>by
 obtain⟨x,hx,k',y,h1,rfl⟩:=tP ha;obtain⟨j,n,rfl,hn⟩:=Fz.Gm h1;obtain⟨r,g,q1,q2,q3,_,q5⟩:=(xV hp x hx).head hn;rw[q5] at h1;cases h1;have hgr:=(hp.few r (zE q1)).ah g (zE q2);refine⟨B0 q3 q2 hgr,?_⟩;show (bc r _ n).length<=6;rw[bc,if_neg (by omega),q2]
 exact ZN (dD _ _ _) (At.a7 hgr).2.1
theorem tR{p:Pg}{x:Pl}{out:List Ac}{k:Int}:∀a∈out,a∈ij p x out k:=λa ha=>by
 unfold ij;split
 .split
  .exact ZB _ ha
  .exact ha
 .exact ha
theorem Dk{α:Type}{p:α->Bool}{l:List α}(h:¬dS p l<0):∃a∈l,p a=true:=by
 have:=eH p l;rw[decide_eq_true (by omega)] at this
 exact List.any_eq_true.1 this.symm
theorem BY{p:Pg}{x:Pl}{out:List Ac}{k:Int}{y:At×List Int}(h:cC p x k=some y):∃a∈ij p x out k,lJ (fy y.1 y.2) a=true:=by
 unfold ij;rw[h];dsimp only;split
 .exact ⟨_,ZT _ (zp.2 rfl),by rw[lJ];exact AF _⟩
 .rename_i hn;exact Dk hn
theorem Ay{p:Pg}{x:Pl}{out:List Ac}:∀{k:Nat},∀a∈out,a∈ll p x out k
 |0,a,h=>h
 |k+1,a,h=>tR a (Ay a h)
theorem AA{p:Pg}{x:Pl}{out:List Ac}{j:Nat}{y:At×List Int}(h:cC p x j=some y):∀{k:Nat},j<k->∃a∈ll p x out k,lJ (fy y.1 y.2) a=true
 |k+1,hj=>by
  by_cases e:j<k
  .obtain ⟨a,h1,h2⟩:=AA (out:=out) h e;exact⟨a,tR a h1,h2⟩
  .obtain rfl:j=k:=by omega
   exact BY h
theorem AB{p:Pg}{l:List Pl}{i:Nat}{x:Pl}{j:Nat}{y:At×List Int}(hx:l[i]? =some x)(hj:j<x.order.length)(h:cC p x j=some y):∀{n:Nat},i<n->∃a∈ie p l n,lJ (fy y.1 y.2) a=true
 |n+1,hi=>by
  rw[ie]
  by_cases e:i<n
  .obtain ⟨a,h1,h2⟩:=AB hx hj h e;split
   .exact ⟨a,Ay a h1,h2⟩
   .exact ⟨a,h1,h2⟩
  .obtain rfl:i=n:=by omega
   rw[hx];exact AA h hj
theorem Ep{p:Pg}{i:Nat}{x:Pl}{j:Nat}{y:At×List Int}(hx:(allI p)[i]? =some x)(hj:j<x.order.length)(h:cC p x j=some y):
  ∃(m:Nat) (a:Ac),sj p (ew p (allI p)) x j=m/\(ew p (allI p))[m]? =some a/\a.positions=y.2:=by
 obtain⟨a,h1,h2⟩:=AB hx hj h (n:=(allI p).length) (zB.1 hx).1;rw[sj,h]
 obtain⟨m,hm,hlt⟩:∃m:Nat,dS (lJ (fy y.1 y.2)) (ew p (allI p))=m/\∃b,(ew p (allI p))[m]? =some b/\lJ (fy y.1 y.2) b=true:=by
  have hex:∃m,m<(ew p (allI p)).length/\(∃b,(ew p (allI p))[m]? =some b/\lJ (fy y.1 y.2) b=true)/\∀i x,i<m->(ew p (allI p))[i]? =some x->lJ (fy y.1 y.2) x=false:=by
   have h1':a∈ew p (allI p):=h1;generalize ew p (allI p)=l at*;clear h1 hx hj h
   induction l with
   |nil=>cases h1'
   |cons b l ih=>
    cases hb:lJ (fy y.1 y.2) b with
    |true=>exact⟨0,by simp,⟨b,rfl,hb⟩,λi x hi=>by omega⟩
    |false=>
     rcases zI.1 h1' with rfl|h3
     .rw [h2] at hb;cases hb
     .obtain ⟨m,q1,q2,q3⟩:=ih h3;refine⟨m+1,by simpa using q1,by simpa using q2,λi x hi hx=>?_⟩
      cases i with
      |zero=>simp at hx;subst hx;exact hb
      |succ i=>exact q3 i x (by omega) (by simpa using hx)
  obtain⟨m,_,⟨b,hb1,hb2⟩,hn⟩:=hex;exact⟨m,fa hn hb1 hb2,b,hb1,hb2⟩
 obtain⟨b,hb1,hb2⟩:=hlt;refine⟨m,b,hm,hb1,?_⟩;simp only[lJ,tS,fy,zD] at hb2;have:=of_decide_eq_true hb2.2.2;simpa using this
theorem yk{a:List Tm}:∀{l:List Int},(∀x∈l,0<=x/\x<a.length)->(jK a l).length=l.length
 |[],_=>rfl
 |i::r,h=>by
  obtain⟨h1,h2⟩:=h i (zV ..);obtain⟨t,ht⟩:∃t,a[i.toNat]? =some t:=⟨_,zA (by omega)⟩
  rw[jK,if_pos ⟨h1,h2⟩,ht,zC,yk λx hx=>h x (zR _ hx)];simp;omega
end Go.CK
namespace Go.CK
open Go.AM Go.Proofs
structure Pg.size(p:Pg):Prop where
 decls:p.decls.length<=2000000
 rules:p.rules.length<=2000000
 each:∀r∈p.rules,r.size
set_option maxHeartbeats 4000000 in
theorem qT{p:Pg}(hs:p.size):Fun Tryz.prog 4 [p.av] (.bool true):=by
 have hck:=Fk hs.decls hs.rules hs.each;have hgr:=Bz (p:=p) (plans:=[])
 cases hg:k8 p [] with
 |true=>
  rw[hg] at hgr;refine Fun.of (bE (by simp) ?_) rfl rfl
  conv=>whnf
  repeat' (first|(refine gF ?_;first|refine ag.fn (pG) ?_|refine ag.fn (hck) ?_|refine ag.fn (hgr) ?_)|(refine gC ?_;first|refine cY ?_|refine .not ?_)|refine ak.nrm ?_)<;>conv=>whnf
 |false=>
 rw[hg] at hgr
 by_cases he:(nW p).2=0
 .have hp:=HH he;have hpl:=A5 hp.fit (by have:=hp.occs;omega)
  have hplo:=xV hp;have hpn:(allI p).length<=160:=by rw[allI,zF];exact hp.occs
  have hal:=yg (p:=p) (plans:=allI p) hp.ok8 (λx hx=>by obtain⟨r,_,_,_,h4,_⟩:=(hplo x hx).ex;omega) (by omega)
  have har:=AD hp
  have hac:(ew p (allI p)).length<=8*160:=by
   have:=tQ (p:=p) (plans:=allI p) (λx hx=>by obtain⟨r,_,_,_,h4,_⟩:=(hplo x hx).ex;omega) (allI p).length
   unfold ew;omega
  rw[he] at hck;refine Fun.of (bE (by simp) ?_) rfl rfl
  conv=>whnf
  repeat' (first|(refine gF ?_;first|refine ag.fn (pG) ?_|refine ag.fn (hck) ?_|refine ag.fn (hgr) ?_|refine ag.fn (hpl) ?_|refine ag.fn (hal) ?_)|(refine gC ?_;first|refine cY ?_|refine cN ?_|refine .not ?_|refine gD (cI ?_)))<;>conv=>whnf
  refine ag.raw (Sem.norm (C8 (bs:=[Box.cells [AV.sl Cap.no (List.map Dc.av p.decls),AV.sl Cap.no (List.map Rl.av p.rules)]]) (l:=ew p (allI p)) (by omega) (λa ha=>by have:=(har a ha).2;omega) (λa ha=>(har a ha).1) rfl)) ?_
  rintro r bs' ⟨rfl,rfl⟩
  conv=>whnf
  repeat' (refine gC ?_;first|refine .not ?_|refine gD (cI ?_))<;>conv=>whnf
  refine az.count (fb:=true) (allI p).length (λ_ (i:Nat)=>⟨[(1,.ptr 0 0),(5,.sl .no ((allI p).map Pl.av)),(6,.sl .no ((ew p (allI p)).map Ac.av)),(9,.int .i64 (i:Int))],[.cells [.sl .no (p.decls.map Dc.av),.sl .no (p.rules.map Rl.av)]],0⟩) (λ_=>True) trivial ?_ (λi hi _=>?_) (λ_=>?_)
  .refine aq.atC 1 ?_ rfl rfl rfl rfl (by first|rfl|(repeat' (first|rfl|refine ao (row_allI _ _ _) ?_|refine ao (aw _ _ _) ?_|refine bLtMp ?_|refine aB ?_|refine bLtCells rfl ?_)))
   conv=>whnf
   refine And.intro ?_ ?_<;>conv=>whnf
   all_goals repeat' (first|(refine gV ?_;first|refine vE ?_|refine vI ?_)|refine gX (xB ?_)|exact True.intro)<;>conv=>whnf
  .obtain ⟨x,hx⟩:∃x,(allI p)[i]? =some x:=⟨_,zA hi⟩;have hxo:=hplo x (zE hx);obtain⟨r,h1,h2,h3,h4,h5,h6,h7⟩:=hxo.ex
   have hro:r.ok:=by
    have hm:=zE h1;have hh:=hp.ah r hm;exact(Cz (hp.few r hm) hh).ok
   conv=>whnf
   repeat' (first|(refine gC ?_;first|refine .not ?_|(refine gD ?_;first|refine cI ?_|refine cJ ?_))|refine gL (.map ?_)|refine gI (gM (iE ?_)))<;>conv=>whnf
   refine az.count (fb:=true) (x.order.length) (λst_ k=>st_.bD [(11,.sl (.own 1) ((x.occ.head::x.order.take k).map aK)),(12,.int .i64 k)]) (λk=>True) ?_ ?_ (λk hk hik=>?_) (λhik=>?_)
   .trivial
   .refine aq.at_ ?_ rfl
    conv=>whnf
    refine And.intro ?_ ?_<;>conv=>whnf
    all_goals repeat' (first|(refine gV ?_;first|refine vE ?_|refine vI ?_|((refine gK ?_;refine vD ?_ ?_);(focus (simp[AV.norm,AV.aj,];done))))|refine gX (xB ?_)|exact True.intro)<;>conv=>whnf
   .obtain ⟨n,hn⟩:∃n,x.order[k]? =some n:=⟨_,zA hk⟩;obtain⟨r',g,g1,g2,g3,g4,g5⟩:=hxo.head hn;obtain rfl:r=r':=by rw[h1] at g1;exact yC g1
    obtain⟨m,a,m1,m2,m3⟩:=Ep hx hk g5;have hml:=(zB.1 m2).1;have hpk:=wC (p:=p) (l:=ew p (allI p)) (x:=x) (k:=k) hp.ok8;rw[m1] at hpk
    have hkl:(bc r (x.occ.head::x.order.take k) n).length<=6:=by
     rw[bc,if_neg (by omega),g2]
     exact ZN (dD _ _ _) (At.a7 ((hp.few r (zE h1)).ah g (zE g2))).2.1
    have hkn:=sS (r:=r) (done:=x.occ.head::x.order.take k) (head:=n) hro (by simp;omega)
    have hky:=EL (p:=p) (x:=x) (k:=k) hp.ok8 (λy hy=>by rw[g5] at hy;cases hy;dsimp only;omega)
    have hkv:ym p x k=jK g.args (bc r (x.occ.head::x.order.take k) n):=by rw[ym,g5]
    rw[hkv] at hky;have hkt:=yk (vf (r:=r) (done:=x.occ.head::x.order.take k) g3 g2)
    have hS:Fun Tryz.prog 17 [slA aK (bc r (x.occ.head::x.order.take k) n),slA aK (bc r (x.occ.head::x.order.take k) n)] (.bool true):=by
     have:=qd (a:=bc r (x.occ.head::x.order.take k) n) (b:=bc r (x.occ.head::x.order.take k) n);simpa using this
    have hS2:Fun Tryz.prog 17 [slA aK a.positions,slA aK (bc r (x.occ.head::x.order.take k) n)] (.bool true):=by rw[m3];exact hS
    conv=>whnf
    repeat' (first|refine gF (ag.fn (hpk) ?_)|(refine gG ?_;first|refine a6.fn (hkn) ?_|refine a6.fn (hS) ?_|refine a6.fn (hS2) ?_|refine a6.fn (hky) ?_)|(refine gC ?_;first|refine cY ?_|refine .not ?_|(refine gD ?_;first|refine cI ?_|refine cJ ?_))|refine gW (wI ?_)|refine gL (.map ?_)|refine gN (nS ?_)|(refine gI ?_;(refine gM ?_;first|refine iE ?_|refine iF ?_)))<;>conv=>whnf
    refine⟨trivial,?_⟩;have hts:x.order.take (k+1)=x.order.take k++[n]:=by rw[ZC,hn];rfl
    refine aq.at_ ?_ rfl
    conv=>whnf
    refine And.intro ?_ ?_<;>conv=>whnf
    all_goals repeat' (first|(refine gV ?_;first|refine vE ?_|refine vI ?_|(refine WkN.sl ?_ ?_;(focus (simp[AV.norm,AV.aj,hts];done))))|refine gX (xB ?_)|exact True.intro)<;>conv=>whnf
   .conv=>whnf
    repeat' (first|refine gC (gD (cJ ?_))|refine gW (wI ?_)|refine gL (.map ?_))<;>conv=>whnf
    refine⟨trivial,?_⟩;refine aq.atC 1 ?_ rfl rfl rfl rfl (by first|rfl|(repeat' (first|rfl|refine ao (row_allI _ _ _) ?_|refine ao (aw _ _ _) ?_|refine bLtMp ?_|refine aB ?_|refine bLtCells rfl ?_)))
    conv=>whnf
    refine And.intro ?_ ?_<;>conv=>whnf
    all_goals repeat' (first|(refine gV ?_;first|refine vE ?_|refine vI ?_)|refine gX (xB ?_)|exact True.intro)<;>conv=>whnf
  .conv=>whnf
   repeat' (first|refine gC (gD (cJ ?_))|refine gL (.map ?_)|refine ak.nrm ?_)<;>conv=>whnf
 .refine Fun.of (bE (by simp) ?_) rfl rfl
  conv=>whnf
  repeat' (first|(refine gF ?_;first|refine ag.fn (pG) ?_|refine ag.fn (hck) ?_|refine ag.fn (hgr) ?_)|(refine gC ?_;first|refine cY ?_|refine cN ?_|refine .not ?_|refine gD (cJ ?_))|refine ak.nrm ?_)<;>conv=>whnf
end Go.CK
namespace Go.CK
open Go.RowKit Go.AM
def qz(M:Hp):List AV->List Value->Prop
 |[],[]=>True
 |x::xs,v::vs=>FV M x v/\qz M xs vs
 |_,_=>False
theorem qz.len{M:Hp}:∀{xs:List AV} {vs:List Value},qz M xs vs->vs.length=xs.length
 |[],[],_=>rfl
 |_::xs,_::vs,h=>by simp[qz.len h.2]
 |[],_::_,h=>h.elim
 |_::_,[],h=>h.elim
theorem qz.get{M:Hp}:∀{xs:List AV} {vs:List Value},qz M xs vs->∀j (h:j<xs.length) v,vs[j]? =some v->FV M xs[j] v
 |[],[],_,j,h,_,_=>by cases h
 |_::xs,_::vs,h,0,_,v,hv=>by
  simp only[Zi,zO] at hv
  subst hv;exact h.1
 |_::xs,_::vs,h,j+1,hj,v,hv=>qz.get h.2 j (by simpa using hj) v (by simpa using hv)
 |[],_::_,h,_,_,_,_=>h.elim
 |_::_,[],h,_,_,_,_=>h.elim
theorem Fun.calls{P:Program}{f:FuncId}{ab:List AV}{b:Bool}(h:Fun P f ab (.bool b)){w:World}{args:List Value}(ha:qz (Hp.of w) ab args):
  Calls P f args.toArray w λe w'=>e=.returned (.bool b)/\Ext w w':=by
 refine(((h []).mono (Q':=λr _=>r=.bool b) λr bs hq=>hq.1).calls (Hp.le_refl _) ha.len ha.get).mono ?_;rintro e w' ⟨v,r,bs',M',σ,n,rfl,rfl,hv,hx,_⟩;exact⟨by rw[hv.cB],hx⟩
end Go.CK
namespace Go.CK
open Go.RowKit Go.Proofs Go.ChangeShapes Go.WideShapes Go.ChangeAt
open Go.Proofs.YtcjfkbdbcgmomaaGreatDoor.Rows (uptoBulk uptoBulkAll uptoSmall)
theorem Ab{H:Type}(d:DataW H):1<=uptoBulk d:=by
 cases d with
 |lit l=>cases l<;>simp[uptoBulk]
 |nil=>simp[uptoBulk]
 |ptr d=>simp[uptoBulk]
 |slice elems spare=>simp[uptoBulk]
 |agg parts=>simp[uptoBulk]
 |iface t d=>simp[uptoBulk]
 |map entries=>simp[uptoBulk]
 |held h=>simp[uptoBulk]
theorem pW{H:Type}{d:DataW H}{l:List (DataW H)}(h:d∈l):uptoBulk d<=uptoBulkAll l:=by
 induction l with
 |nil=>cases h
 |cons x r ih=>
  simp only[uptoBulkAll]
  cases zI.1 h with
  |inl e=>subst e;omega
  |inr e=>have:=ih e;omega
theorem Ad{H:Type}(l:List (DataW H)):l.length<=uptoBulkAll l:=by
 induction l with
 |nil=>simp[uptoBulkAll]
 |cons x r ih=>have:=Ab x;simp only[uptoBulkAll,zX];omega
theorem BN{H:Type}{l:List (DataW H)}(hk:uptoSmall H l=true):uptoBulkAll l<=1048576:=of_decide_eq_true hk
section
variable{H:Type}{enc:TypeId×Value->H}{P:Program}{W:World}{spare:Nat->Bool}{held:Bool}
theorem HY{α:Type}{T e:TypeId}{sz N:Nat}(hu:P.underlying T=some (.slice e))(hsz:P.cellsOf e=sz)(hp:0<sz)(R:List Value->α->Prop)(hN:N<=1048576)
  (ih:∀(cs:List Value) (d:DataW H) (ps:List MemPlace) (fuel:Nat),DataW.trod enc P W 0 spare held fuel e cs=some (d,ps)->uptoBulk d<N->∃x,R cs x)
  {fuel:Nat} {cs:List Value} {d:DataW H} {ps:List MemPlace} (h:DataW.trod enc P W 0 spare held fuel T cs=some (d,ps)) (hb:uptoBulk d<=N):
  ∃(a:Option Addr) (l:List α) (cap:Nat),cs=[.slice a l.length cap]/\l.length<=cap/\Sl (Hp.of W) sz R a l/\l.length<=N:=by
 subst hsz;rcases Deep.open_slice hu h with ⟨rfl,_⟩|⟨a,len,cap,m,n,D,Pl,rfl,_,hlc,_,hm,hx,hel⟩
 .exact ⟨none,[],0,rfl,by simp,Sl.nil,by simp⟩
 .simp only[Prod.mk.injEq] at hx;obtain⟨rfl,_⟩:=hx;have hlm:len<=m:=by rw[hm];split<;>omega
  simp only[uptoBulk] at hb;have hlen:=Ad ((List.range len).map D);rw[zF,List.length_range] at hlen
  have hD:∀i,i<len->∃x cs',W.cells? 0 (a.add (i*P.cellsOf e)) (P.cellsOf e)=some cs'/\R cs' x:=λi hi=>by
   obtain⟨cs',h1,h2⟩:=hel i (by omega)
   have hbi:uptoBulk (D i)<=uptoBulkAll ((List.range len).map D):=pW (zk.2 ⟨i,by simpa using hi,rfl⟩)
   obtain⟨x,hx⟩:=ih cs' (D i) (Pl i) n h2 (by omega)
   exact⟨x,cs',h1,hx⟩
  refine⟨some a,List.ofFn (λi:Fin len=>(hD i.1 i.2).choose),cap,by simp,by simpa using hlc,⟨by simp[lim];omega,λi hi=>?_⟩,by simp;omega⟩
  rw[List.length_ofFn] at hi
  have hspot:a.spot=none:=by
   obtain⟨cs',h1,_⟩:=hel 0 (by omega)
   obtain⟨_,h2,h3⟩:=World.cells?_some h1;have h4:=h3 0 hp;rw[zA (by omega)] at h4
   simp only[Nat.zero_mul] at h4;have h5:(a.add 0).add 0=a:=by simp[Addr.add]
   rw[h5] at h4
   cases hs:a.spot with
   |none=>rfl
   |some k=>
    simp only[World.cell?,hs] at h4;split at h4<;>simp at h4
  obtain⟨cs',h1,h2⟩:=(hD i hi).choose_spec;obtain⟨_,h3,h4⟩:=World.cells?_some h1;have ha:a=⟨a.block,a.off,none⟩:=by cases a;simp only at hspot;subst hspot;rfl
  refine⟨a.block,a.off,cs',by rw[<-ha],h3,λj x hj=>?_,by simpa using h2⟩
  have hj2:j<P.cellsOf e:=by rw[<-h3];exact(zB.1 hj).1
  have h5:=h4 j hj2;rw[Deep.add_add] at h5
  have h6:a.add (i*P.cellsOf e+j)=⟨a.block,a.off+i*P.cellsOf e+j,none⟩:=by
   unfold Addr.add;split
   .rename_i h0;rw[ha];simp;omega
   .simp
  rw[h6,hj] at h5;exact h5
end
theorem oV:Tryz.prog.cellsOf 3=1:=by kernel_rfl
theorem my:Tryz.prog.cellsOf 9=1:=by kernel_rfl
theorem tu:Tryz.prog.cellsOf 24=1:=by kernel_rfl
theorem w5:Tryz.prog.cellsOf 81=4:=by kernel_rfl
section
variable{H:Type}{enc:TypeId×Value->H}{W:World}{spare:Nat->Bool}{held:Bool}
theorem sY{fuel:Nat}{cs:List Value}{d:DataW H}{ps:List MemPlace}(h:DataW.trod enc Tryz.prog W 0 spare held fuel 3 cs=some (d,ps)):∃n,cs=[.int .i64 n]/\iY n:=by
 obtain⟨n,h1,_,h3⟩:=DataW.trod_int Tryz.underlying3 h;exact⟨n,h1,iY.H8 h3⟩
theorem rJ{N fuel:Nat}{cs:List Value}{d:DataW H}{ps:List MemPlace}(h:DataW.trod enc Tryz.prog W 0 spare held fuel 9 cs=some (d,ps))(hb:uptoBulk d<=N):∃s:ByteArray,cs=[.string s]/\s.size<=N:=by
 obtain⟨s,h1,h2,_⟩:=DataW.trod_string Tryz.underlying9 h;simp only[Prod.mk.injEq] at h2;obtain⟨rfl,_⟩:=h2;have e:s.data.toList.length=s.size:=by rw[ZJ];rfl
 simp only[uptoBulk] at hb;exact⟨s,h1,by omega⟩
end
end Go.CK
