/-
  Texts of this bj joined (wip/gen/bundle.py),those declarations only that are needed:PlS PlT LkpC LkpD LkpE. By an AI agent.
-/
import Derived.Test.YtcjfkbdbcgmomaaGreatDoorBay
set_option linter.unusedSimpArgs false
set_option linter.unusedVariables false
set_option maxRecDepth 100000
namespace Go.CK
open Go.AM Go.Proofs
theorem mG{l:List (Int×AV)}{n:Int}{ok:Bool}{z v:AV}{K:AV->Prop}(h:kq l n=some v)(hv:cj v=true)(k:K (okR ok v true)):AH l n ok z K:=⟨by rw[h];exact⟨hv,k⟩⟩
theorem mGn{l:List (Int×AV)}{n:Int}{ok:Bool}{z:AV}{K:AV->Prop}(h:kq l n=none)(k:K (okR ok z false)):AH l n ok z K:=⟨by rw[h];exact k⟩
def k6(l:List Tm)(x:Int):Nat->Option Nat
 |0=>none
 |j+1=>match l[j]? with
  |none=>k6 l x j
  |some t=>if x=t.num then some j else k6 l x j
def dj(l:List Tm):Nat->List (Int×AV)
 |0=>[]
 |j+1=>match l[j]? with
  |none=>dj l j
  |some t=>ft (dj l j) t.num (.int .i64 j)
theorem fW(l:List Tm)(x:Int):∀j,kq (dj l j) x=(k6 l x j).map λi:Nat=>AV.int .i64 i
 |0=>rfl
 |j+1=>by
  rw[dj,k6]
  cases e:l[j]? with
  |none=>exact fW l x j
  |some t=>
   simp only;rw[sM];split
   .rfl
   .exact fW l x j
def cm(l:List Tm):Nat->Bool
 |0=>true
 |j+1=>cm l j&&match l[j]? with
  |none=>true
  |some t=>decide (t.kind=1)&&(k6 l t.num j).isNone
theorem C4{l:List Tm}{j:Nat}{t:Tm}(h:l[j]? =some t):cm l (j+1)=(cm l j&&(decide (t.kind=1)&&(k6 l t.num j).isNone)):=by simp[cm,h]
theorem uT{l:List Tm}{j:Nat}:∀{n:Nat},cm l j=false->j<=n->cm l n=false
 |0,h,hn=>by
  obtain rfl:j=0:=by omega
  exact h
 |n+1,h,hn=>by
  rcases Nat.lt_or_eq_of_le hn with q|q
  .rw [cm,uT h (by omega),zw]
  .rw [<-q];exact h
theorem DT{l:List Tm}{j:Nat}{t:Tm}(h:l[j]? =some t):dj l (j+1)=ft (dj l j) t.num (.int .i64 j):=by simp[dj,h]
theorem ak.Il{s:St}{rs:List ej}{Q:AV->List Box->Prop}{own X:List Box}(hb:s.bs=own++X)(hlo:s.lo<=own.length)(h1:eo own.length s.env=true)(h2:al own.length own=true)(h:ak ⟨s.env,own,s.lo⟩ rs Q):ak s rs Q:=by
 have ht:s.bs.take own.length=own:=by rw[hb];simp
 refine ak.cut own.length hlo (by rw[hb];simp) h1 (by rw[ht];exact h2) ?_
 rw[ht];exact h
set_option maxHeartbeats 1000000 in
theorem n5{a:At}{bs:List Box}(ha:a.args.length<=100000)(hbb:al bs.length bs=true):AM.Sem Tryz.prog 173 [a.av] bs λr bs'=>(cm a.args a.args.length=true/\r=.tup [.mpt (bs.length+1),.bool true]/\bs'=bs++[.cells [.str a.name,.sl .no (a.args.map Tm.av)],.mp (dj a.args a.args.length)])\/(cm a.args a.args.length=false/\r=.tup [.nmp,.bool false]/\bs'=bs):=by
 refine l9 (by simp) ?_
 conv=>whnf
 try dsimp only
 repeat' (first|refine gL (.map ?_)|refine gB (.last2 ?_))<;>(conv=>whnf;try dsimp only)
 obtain⟨own,hown⟩:∃own,own=bs++[Box.cells [AV.str a.name,.sl .no (a.args.map Tm.av)]]:=⟨_,rfl⟩;have hol:own.length=bs.length+1:=by rw[hown];simp
 have hob:al own.length own=true:=by
  rw[hown];exact aT (aY (by simp) hbb) (by rfl)
 rw[<-hown];refine az.count (fb:=false) a.args.length (λst_ j=>⟨[(4,.mpt own.length),(11,.sl .no (a.args.map Tm.av)),(12,.int .i64 a.args.length),(13,.int .i64 j)],own++[.mp (dj a.args j)],bs.length⟩) (λj=>cm a.args j=true) rfl ?_ (λj hj hij=>?_) (λhij=>?_)
 .refine aq.atS ?_ rfl rfl
  conv=>whnf
  repeat' (first|(refine gV ?_;first|refine vE ?_|refine vI ?_)|exact True.intro)<;>conv=>whnf
 .obtain ⟨t,ht⟩:∃t,a.args[j]? =some t:=⟨_,zA hj⟩;have hmp:∀q:Box,((own++[.mp (dj a.args j)])++[q])[own.length]? =some (.mp (dj a.args j)):=λq=>by simp
  have hpa:=C4 ht;rw[hij,za] at hpa;have hlt:=DT ht;have hno:cm a.args (j+1)=false->cm a.args a.args.length=false:=λh=>uT h hj
  conv=>whnf
  try dsimp only
  repeat' (first|(refine gC ?_;first|refine .not ?_|refine gD (cI ?_)|refine ae.dec (λhc=>?_) (λhc=>?_))|refine gI (gT (iA ?_))|refine gB (.last ?_)|refine aA.last ?_)<;>(conv=>whnf;try dsimp only)
  .have hk:t.kind=1:=by assumption
   rw[decide_eq_true hk,za] at hpa;refine xr.of (hmp _) ?_
   cases hi:k6 a.args t.num j with
   |some i=>
    refine mG (v:=.int .i64 i) (by rw[fW,hi];rfl) rfl ?_
    conv=>whnf
    try dsimp only
    repeat' refine gC (cY ?_)<;>(conv=>whnf;try dsimp only)
    refine ak.Il (own:=bs) (X:=.cells [AV.str a.name,.sl .no (a.args.map Tm.av)]::[.mp (dj a.args j),.cells [.int .i64 t.kind,.int .i64 t.num,.str t.name,.sl .no (t.args.map Tm.av)]]) (by simp[hown]) (zG _) rfl hbb ?_
    conv=>whnf
    try dsimp only
    repeat' refine ak.nrm ?_<;>(conv=>whnf;try dsimp only)
    exact Or.inr ⟨hno (by rw[hpa,hi];rfl),rfl,rfl⟩
   |none=>
    refine mGn (by rw[fW,hi];rfl) ?_
    conv=>whnf
    try dsimp only
    repeat' (first|refine gC (cN ?_)|refine gB (.last ?_))<;>(conv=>whnf;try dsimp only)
    refine xr.of (hmp _) ?_
    conv=>whnf
    try dsimp only
    repeat' (first|refine gW (wI ?_)|refine gN (nS ?_))<;>(conv=>whnf;try dsimp only)
    refine⟨by rw[hpa,hi];rfl,?_⟩
    refine aq.oU (own:=own++[.mp (dj a.args (j+1))]) (x:=.cells [.int .i64 t.kind,.int .i64 t.num,.str t.name,.sl .no (t.args.map Tm.av)]) (by simp[hlt,St.ev,St.get,au,Nat.beq,AV.aF]) (by simp[hol];omega) (by simp[eo,AV.lt,AV.lt1,AV.lt0,AV.aW]) (aT (aY (by simp) hob) rfl) ?_
    refine aq.atS ?_ rfl rfl
    conv=>whnf
    repeat' (first|(refine gV ?_;first|refine vE ?_|refine vI ?_)|exact True.intro)<;>conv=>whnf
  .have hk:¬t.kind=1:=by assumption
   rw[decide_eq_false hk,zw] at hpa;refine ak.Il (own:=bs) (X:=.cells [AV.str a.name,.sl .no (a.args.map Tm.av)]::[.mp (dj a.args j),.cells [.int .i64 t.kind,.int .i64 t.num,.str t.name,.sl .no (t.args.map Tm.av)]]) (by simp[hown]) (zG _) rfl hbb ?_
   conv=>whnf
   try dsimp only
   repeat' refine ak.nrm ?_<;>(conv=>whnf;try dsimp only)
   exact Or.inr ⟨hno hpa,rfl,rfl⟩
 .conv=>whnf
  try dsimp only
  repeat' refine gC (gD (cJ ?_))<;>(conv=>whnf;try dsimp only)
  refine⟨_,aG.refl _,Or.inl (Or.inl ⟨hij,?_,by rw[hown];simp⟩)⟩
  show AV.tup [.mpt own.length,.bool true]=_;rw[hol]
theorem eK{a:At}{bs:List Box}(h:cm a.args a.args.length=true)(ha:a.args.length<=100000)(hbb:al bs.length bs=true):AM.Sem Tryz.prog 173 [a.av] bs λr bs'=>r=.tup [.mpt (bs.length+1),.bool true]/\bs'=bs++[.cells [.str a.name,.sl .no (a.args.map Tm.av)],.mp (dj a.args a.args.length)]:=
 (n5 ha hbb).mono λr bs' hq=>by
  rcases hq with ⟨_,h1⟩|⟨h1,_⟩
  .exact h1
  .rw [h] at h1;cases h1
theorem fB{a:At}{bs:List Box}(h:cm a.args a.args.length=false)(ha:a.args.length<=100000)(hbb:al bs.length bs=true):AM.Sem Tryz.prog 173 [a.av] bs λr bs'=>r=.tup [.nmp,.bool false]/\bs'=bs:=
 (n5 ha hbb).mono λr bs' hq=>by
  rcases hq with ⟨h1,_⟩|⟨_,h1⟩
  .rw [h] at h1;cases h1
  .exact h1
def bU(la lb:List Tm):Nat->Option (List Int)
 |0=>some []
 |j+1=>match bU la lb j,la[j]? with
  |none,_=>none
  |some ps,none=>some ps
  |some ps,some t=>match k6 lb t.num lb.length with
   |none=>some ps
   |some m=>if m=j then some (ps++[(j:Int)]) else none
theorem o5{la lb:List Tm}{j:Nat}:∀{n:Nat},bU la lb j=none->j<=n->bU la lb n=none
 |0,h,hn=>by
  obtain rfl:j=0:=by omega
  exact h
 |n+1,h,hn=>by
  rcases Nat.lt_or_eq_of_le hn with q|q
  .rw [bU,o5 h (by omega)]
  .rw [<-q];exact h
theorem kG{la lb:List Tm}:∀{j:Nat} {ps:List Int},bU la lb j=some ps->ps.length<=j
 |0,ps,h=>by cases h;exact zG _
 |j+1,ps,h=>by
  rw[bU] at h;split at h
  .cases h
  .rename_i e _;have:=kG e;cases h;omega
  .rename_i e _;have:=kG e;split at h
   .cases h;omega
   .split at h
    .cases h;simp;omega
    .cases h
def Ky.zero:Ky:=⟨⟨⟨[]⟩⟩,0,[]⟩
def kV(r:Rl):Option Ky:=
 if r.remove.length=0\/0<r.guard.length then none else match r.ah with
 |[a,b]=>if a.name=b.name/\a.args.length=b.args.length/\cm a.args a.args.length=true/\cm b.args b.args.length=true then (bU a.args b.args a.args.length).map λps=>⟨a.name,a.args.length,ps⟩ else none
 |_=>none
def oz:Option Ky->AV
 |none=>.tup [Ky.zero.av,.bool false]
 |some k=>.tup [k.av,.bool true]
theorem x4:∀o,(oz o).lt 0=true
 |none=>rfl
 |some _=>rfl
set_option maxHeartbeats 2000000 in
theorem C6{r:Rl}(hr:r.ok2)(hg:r.okG):Fun Tryz.prog 120 [r.av] (oz (kV r)):=by
 have hgl:=hg.1;have hh:=dP (x:=r) (by have:=hr.1;omega)
 have hpr:=FX (x:=r)
 by_cases h2:r.ah.length=2
 .obtain ⟨a,b,hab⟩:∃a b,r.ah=[a,b]:=by
   match r.ah,h2 with
   |[a,b],_=>exact⟨a,b,rfl⟩
  have hal:=(hr.2 a (by rw[hab];simp)).1
  have hbl:=(hr.2 b (by rw[hab];simp)).1
  rw[hab] at hh;rw[kV,hab]
  by_cases hc0:r.remove.length=0\/0<r.guard.length
  .rw [if_pos hc0];refine Fun.of (bt (by simp) ?_) rfl rfl
   conv=>whnf
   repeat' (first|(refine gF ?_;first|refine ag.fn (hh) ?_|refine ag.fn (hpr) ?_)|(refine gC ?_;first|refine cY ?_|refine .not ?_|(refine gD ?_;first|refine cI ?_|refine cJ ?_)|refine ae.dec (λhc=>?_) (λhc=>?_))|refine gL (.map ?_)|refine ak.nrm ?_)<;>conv=>whnf
   all_goals rfl
  .rw [if_neg hc0];dsimp only;have hrl:¬(r.remove.length:Int)=0:=by omega
   have hg0:r.guard.length=0:=by omega
   have h20:(([a,b]:List At).length:Int)=2:=rfl;have hx0:([a,b]:List At)[(0:Int).toNat]? =some a:=rfl;have hx1:([a,b]:List At)[(1:Int).toNat]? =some b:=rfl
   by_cases hn:a.name=b.name
   .by_cases hl:a.args.length=b.args.length
    .cases ha:cm a.args a.args.length with
     |false=>
      rw[if_neg (by simp)]
      cases hb:cm b.args b.args.length with
      |false=>
       refine Fun.of (bt (by simp) ?_) rfl rfl
       conv=>whnf
       repeat' (first|(refine gF ?_;first|refine ag.fn (hh) ?_|refine ag.fn (hpr) ?_|refine ag.to (fB ha (by omega) (by first|rfl|(repeat' (first|rfl|refine ao (row_allI _ _ _) ?_|refine ao (aw _ _ _) ?_|refine bLtMp ?_|refine aB ?_|refine bLtCells rfl ?_)))) ?_|refine ag.to (fB hb (by omega) (by first|rfl|(repeat' (first|rfl|refine ao (row_allI _ _ _) ?_|refine ao (aw _ _ _) ?_|refine bLtMp ?_|refine aB ?_|refine bLtCells rfl ?_)))) ?_)|(refine gC ?_;first|refine cY ?_|refine cN ?_|refine .not ?_|(refine gD ?_;first|refine cI ?_|refine cJ ?_))|refine gL (.map ?_)|refine gI (gM (iE ?_))|refine ba.mk ?_ ?_|refine ak.nrm ?_)<;>conv=>whnf
       all_goals rfl
      |true=>
       refine Fun.of (bt (by simp) ?_) rfl rfl
       conv=>whnf
       repeat' (first|(refine gF ?_;first|refine ag.fn (hh) ?_|refine ag.fn (hpr) ?_|refine ag.to (fB ha (by omega) (by first|rfl|(repeat' (first|rfl|refine ao (row_allI _ _ _) ?_|refine ao (aw _ _ _) ?_|refine bLtMp ?_|refine aB ?_|refine bLtCells rfl ?_)))) ?_|refine ag.to (eK hb (by omega) (by first|rfl|(repeat' (first|rfl|refine ao (row_allI _ _ _) ?_|refine ao (aw _ _ _) ?_|refine bLtMp ?_|refine aB ?_|refine bLtCells rfl ?_)))) ?_)|(refine gC ?_;first|refine cY ?_|refine cN ?_|refine .not ?_|(refine gD ?_;first|refine cI ?_|refine cJ ?_))|refine gL (.map ?_)|refine gI (gM (iE ?_))|refine ba.mk ?_ ?_|refine ak.nrm ?_)<;>conv=>whnf
       all_goals rfl
     |true=>
      cases hb:cm b.args b.args.length with
      |false=>
       rw[if_neg (by simp)]
       refine Fun.of (bt (by simp) ?_) rfl rfl
       conv=>whnf
       repeat' (first|(refine gF ?_;first|refine ag.fn (hh) ?_|refine ag.fn (hpr) ?_|refine ag.to (eK ha (by omega) (by first|rfl|(repeat' (first|rfl|refine ao (row_allI _ _ _) ?_|refine ao (aw _ _ _) ?_|refine bLtMp ?_|refine aB ?_|refine bLtCells rfl ?_)))) ?_|refine ag.to (fB hb (by omega) (by first|rfl|(repeat' (first|rfl|refine ao (row_allI _ _ _) ?_|refine ao (aw _ _ _) ?_|refine bLtMp ?_|refine aB ?_|refine bLtCells rfl ?_)))) ?_)|(refine gC ?_;first|refine cY ?_|refine cN ?_|refine .not ?_|(refine gD ?_;first|refine cI ?_|refine cJ ?_))|refine gL (.map ?_)|refine gI (gM (iE ?_))|refine ba.mk ?_ ?_|refine ak.nrm ?_)<;>conv=>whnf
       all_goals rfl
      |true=>
       rw[if_pos (by simp[hn,hl])]
       refine Fun.of (bt (by simp) ?_) rfl (x4 _)
       conv=>whnf
       repeat' (first|(refine gF ?_;first|refine ag.fn (hh) ?_|refine ag.fn (hpr) ?_|refine ag.to (eK ha (by omega) (by first|rfl|(repeat' (first|rfl|refine ao (row_allI _ _ _) ?_|refine ao (aw _ _ _) ?_|refine bLtMp ?_|refine aB ?_|refine bLtCells rfl ?_)))) ?_|refine ag.to (eK hb (by omega) (by first|rfl|(repeat' (first|rfl|refine ao (row_allI _ _ _) ?_|refine ao (aw _ _ _) ?_|refine bLtMp ?_|refine aB ?_|refine bLtCells rfl ?_)))) ?_)|(refine gC ?_;first|refine cY ?_|refine .not ?_|(refine gD ?_;first|refine cI ?_|refine cJ ?_))|refine gL (.map ?_)|refine gI (gM (iE ?_))|refine ba.mk ?_ ?_)<;>conv=>whnf
       .refine az.count (fb:=true) a.args.length (λst_ j=>⟨[(2,.ptr 1 0),(9,.mpt 7),(11,.ptr 8 0),(77,.sl .no (a.args.map Tm.av)),(78,.int .i64 a.args.length),(79,.int .i64 j)],[.cells [.str r.name,.sl .no (r.aE.map At.av),.sl .no (r.remove.map At.av),.sl .no (r.guard.map Gl.av),.sl .no (r.body.map Gl.av),.int .i64 r.vars],.cells [.str ⟨⟨[]⟩⟩,.int .i64 0,.sl .full []],.cells [.str a.name,.sl .no (a.args.map Tm.av)],.cells [.str b.name,.sl .no (b.args.map Tm.av)],.cells [.str a.name,.sl .no (a.args.map Tm.av)],.mp (dj a.args a.args.length),.cells [.str b.name,.sl .no (b.args.map Tm.av)],.mp (dj b.args b.args.length),.cells [.str a.name,.int .i64 a.args.length,.sl (.own 1) (((bU a.args b.args j).getD []).map aK)]],0⟩) (λj=>(bU a.args b.args j).isSome=true) rfl ?_ (λj hj hij=>?_) (λhij=>?_)
        .refine aq.wZ 8 2 1 rfl (by simp) ?_
         refine aq.at_ ?_ rfl
         conv=>whnf
         refine And.intro ?_ ?_<;>conv=>whnf
         all_goals repeat' (first|(refine gV ?_;first|refine vE ?_|refine vI ?_)|(refine gX ?_;first|refine xB ?_|(refine BxN.mk ?_ ?_;(focus (simp[AV.norm,AV.aj,bU];done))))|exact True.intro)<;>conv=>whnf
        .obtain ⟨t,ht⟩:∃t,a.args[j]? =some t:=⟨_,zA hj⟩;obtain⟨ps,hps⟩:=yA.1 hij;have hpl:=kG hps;have hg:=fW b.args t.num b.args.length
         have hsu:bU a.args b.args (j+1)=match k6 b.args t.num b.args.length with
           |none=>some ps
           |some m=>if m=j then some (ps++[(j:Int)]) else none:=by rw[bU,hps,ht]
         have hno:bU a.args b.args (j+1)=none->bU a.args b.args a.args.length=none:=λh=>o5 h hj;rw[hps,ZR];generalize dj b.args b.args.length=mb at*
         conv=>whnf
         repeat' (first|refine gC (gD (cI ?_))|refine gI (gT (iA ?_))|refine gMp (mA ?_))<;>conv=>whnf
         cases hi:k6 b.args t.num b.args.length with
         |none=>
          rw[hi] at hg hsu;refine mGn hg ?_
          conv=>whnf
          repeat' (first|refine gC (cN ?_)|refine gW (wI ?_))<;>conv=>whnf
          refine⟨by rw[hsu];rfl,?_⟩
          refine aq.atC 9 ?_ rfl rfl rfl rfl (by first|rfl|(repeat' (first|rfl|refine ao (row_allI _ _ _) ?_|refine ao (aw _ _ _) ?_|refine bLtMp ?_|refine aB ?_|refine bLtCells rfl ?_)))
          conv=>whnf
          refine And.intro ?_ ?_<;>conv=>whnf
          all_goals repeat' (first|(refine gV ?_;first|refine vE ?_|refine vI ?_)|(refine gX ?_;first|refine xB ?_|(refine BxN.mk ?_ ?_;(focus (simp[AV.norm,AV.aj,hsu];done))))|exact True.intro)<;>conv=>whnf
         |some m=>
          rw[hi] at hg hsu;refine mG hg rfl ?_
          by_cases hmj:m=j
          .subst hmj;dsimp only at hsu;rw[if_pos rfl] at hsu
           conv=>whnf
           repeat' (first|(refine gC ?_;first|refine cY ?_|refine .not ?_|refine gD (cI ?_))|refine gW (wI ?_)|refine gN (nS ?_))<;>conv=>whnf
           refine⟨by rw[hsu];rfl,?_⟩
           refine aq.atC 9 ?_ rfl rfl rfl rfl (by first|rfl|(repeat' (first|rfl|refine ao (row_allI _ _ _) ?_|refine ao (aw _ _ _) ?_|refine bLtMp ?_|refine aB ?_|refine bLtCells rfl ?_)))
           conv=>whnf
           refine And.intro ?_ ?_<;>conv=>whnf
           all_goals repeat' (first|(refine gV ?_;first|refine vE ?_|refine vI ?_)|(refine gX ?_;first|refine xB ?_|(refine BxN.mk ?_ ?_;(focus (simp[AV.norm,AV.aj,hsu];done))))|exact True.intro)<;>conv=>whnf
          .dsimp only at hsu;rw[if_neg hmj] at hsu;rw[hno hsu]
           conv=>whnf
           repeat' (first|(refine gC ?_;first|refine cY ?_|refine .not ?_|refine gD (cJ ?_))|refine ak.nrm ?_)<;>conv=>whnf
           rfl
        .obtain ⟨ps,hps⟩:=yA.1 hij;rw[hps]
         conv=>whnf
         repeat' (first|refine gC (gD (cJ ?_))|refine ak.nrm ?_)<;>conv=>whnf
         rfl
       .refine az.count (fb:=true) a.args.length (λst_ j=>⟨[(2,.ptr 1 0),(9,.mpt 7),(11,.ptr 8 0),(77,.sl .no (a.args.map Tm.av)),(78,.int .i64 a.args.length),(79,.int .i64 j)],[.cells [.str r.name,.sl .no (r.aE.map At.av),.sl .no (r.remove.map At.av),.sl .no (r.guard.map Gl.av),.sl .no (r.body.map Gl.av),.int .i64 r.vars],.cells [.str ⟨⟨[]⟩⟩,.int .i64 0,.sl .full []],.cells [.str b.name,.sl .no (b.args.map Tm.av)],.cells [.str a.name,.sl .no (a.args.map Tm.av)],.cells [.str a.name,.sl .no (a.args.map Tm.av)],.mp (dj a.args a.args.length),.cells [.str b.name,.sl .no (b.args.map Tm.av)],.mp (dj b.args b.args.length),.cells [.str a.name,.int .i64 a.args.length,.sl (.own 1) (((bU a.args b.args j).getD []).map aK)]],0⟩) (λj=>(bU a.args b.args j).isSome=true) rfl ?_ (λj hj hij=>?_) (λhij=>?_)
        .refine aq.wZ 8 2 1 rfl (by simp) ?_
         refine aq.at_ ?_ rfl
         conv=>whnf
         refine And.intro ?_ ?_<;>conv=>whnf
         all_goals repeat' (first|(refine gV ?_;first|refine vE ?_|refine vI ?_)|(refine gX ?_;first|refine xB ?_|(refine BxN.mk ?_ ?_;(focus (simp[AV.norm,AV.aj,bU];done))))|exact True.intro)<;>conv=>whnf
        .obtain ⟨t,ht⟩:∃t,a.args[j]? =some t:=⟨_,zA hj⟩;obtain⟨ps,hps⟩:=yA.1 hij;have hpl:=kG hps;have hg:=fW b.args t.num b.args.length
         have hsu:bU a.args b.args (j+1)=match k6 b.args t.num b.args.length with
           |none=>some ps
           |some m=>if m=j then some (ps++[(j:Int)]) else none:=by rw[bU,hps,ht]
         have hno:bU a.args b.args (j+1)=none->bU a.args b.args a.args.length=none:=λh=>o5 h hj;rw[hps,ZR];generalize dj b.args b.args.length=mb at*
         conv=>whnf
         repeat' (first|refine gC (gD (cI ?_))|refine gI (gT (iA ?_))|refine gMp (mA ?_))<;>conv=>whnf
         cases hi:k6 b.args t.num b.args.length with
         |none=>
          rw[hi] at hg hsu;refine mGn hg ?_
          conv=>whnf
          repeat' (first|refine gC (cN ?_)|refine gW (wI ?_))<;>conv=>whnf
          refine⟨by rw[hsu];rfl,?_⟩
          refine aq.atC 9 ?_ rfl rfl rfl rfl (by first|rfl|(repeat' (first|rfl|refine ao (row_allI _ _ _) ?_|refine ao (aw _ _ _) ?_|refine bLtMp ?_|refine aB ?_|refine bLtCells rfl ?_)))
          conv=>whnf
          refine And.intro ?_ ?_<;>conv=>whnf
          all_goals repeat' (first|(refine gV ?_;first|refine vE ?_|refine vI ?_)|(refine gX ?_;first|refine xB ?_|(refine BxN.mk ?_ ?_;(focus (simp[AV.norm,AV.aj,hsu];done))))|exact True.intro)<;>conv=>whnf
         |some m=>
          rw[hi] at hg hsu;refine mG hg rfl ?_
          by_cases hmj:m=j
          .subst hmj;dsimp only at hsu;rw[if_pos rfl] at hsu
           conv=>whnf
           repeat' (first|(refine gC ?_;first|refine cY ?_|refine .not ?_|refine gD (cI ?_))|refine gW (wI ?_)|refine gN (nS ?_))<;>conv=>whnf
           refine⟨by rw[hsu];rfl,?_⟩
           refine aq.atC 9 ?_ rfl rfl rfl rfl (by first|rfl|(repeat' (first|rfl|refine ao (row_allI _ _ _) ?_|refine ao (aw _ _ _) ?_|refine bLtMp ?_|refine aB ?_|refine bLtCells rfl ?_)))
           conv=>whnf
           refine And.intro ?_ ?_<;>conv=>whnf
           all_goals repeat' (first|(refine gV ?_;first|refine vE ?_|refine vI ?_)|(refine gX ?_;first|refine xB ?_|(refine BxN.mk ?_ ?_;(focus (simp[AV.norm,AV.aj,hsu];done))))|exact True.intro)<;>conv=>whnf
          .dsimp only at hsu;rw[if_neg hmj] at hsu;rw[hno hsu]
           conv=>whnf
           repeat' (first|(refine gC ?_;first|refine cY ?_|refine .not ?_|refine gD (cJ ?_))|refine ak.nrm ?_)<;>conv=>whnf
           rfl
        .obtain ⟨ps,hps⟩:=yA.1 hij;rw[hps]
         conv=>whnf
         repeat' (first|refine gC (gD (cJ ?_))|refine ak.nrm ?_)<;>conv=>whnf
         rfl
    .rw [if_neg (λq=>hl q.2.1)];refine Fun.of (bt (by simp) ?_) rfl rfl
     conv=>whnf
     repeat' (first|(refine gF ?_;first|refine ag.fn (hh) ?_|refine ag.fn (hpr) ?_)|(refine gC ?_;first|refine .not ?_|(refine gD ?_;first|refine cI ?_|refine cJ ?_))|refine gL (.map ?_)|refine gI (gM (iE ?_))|refine ba.mk ?_ ?_|refine ak.nrm ?_)<;>conv=>whnf
     all_goals rfl
   .rw [if_neg (λq=>hn q.1)];refine Fun.of (bt (by simp) ?_) rfl rfl
    conv=>whnf
    repeat' (first|(refine gF ?_;first|refine ag.fn (hh) ?_|refine ag.fn (hpr) ?_)|(refine gC ?_;first|refine cY ?_|refine .not ?_|(refine gD ?_;first|refine cI ?_|refine cJ ?_))|refine gL (.map ?_)|refine gI (gM (iE ?_))|refine ba.mk ?_ ?_|refine ak.nrm ?_)<;>conv=>whnf
    all_goals rfl
 .have e:kV r=none:=by
   rw[kV];split
   .rfl
   .split
    .rename_i q;rw[q] at h2;exact absurd rfl h2
    .rfl
  rw[e];refine Fun.of (bt (by simp) ?_) rfl rfl
  conv=>whnf
  repeat' (first|refine gF (ag.fn (hh) ?_)|(refine gC ?_;first|refine cY ?_|refine .not ?_|refine gD (cJ ?_))|refine gL (.map ?_)|refine ak.nrm ?_)<;>conv=>whnf
  all_goals rfl
end Go.CK
namespace Go.CK
open Go.AM Go.Proofs
theorem BH{a b:Ky}:Fun Tryz.prog 123 [a.av,b.av] (.bool (decide (a=b))):=by
 have hd:decide (a=b)=(decide (a.name=b.name)&&(decide (a.arity=b.arity)&&decide (a.positions=b.positions))):=by
  rw[Bool.eq_iff_iff];simp only[zD,decide_eq_true_eq,Ky.ext_iff]
 rw[hd];clear hd;refine Fun.of (qO (by simp) ?_) rfl rfl
 conv=>whnf
 repeat' (first|(refine gF ?_;refine ag.fn (vr (a:=a.positions) (b:=b.positions)) ?_)|(refine gC ?_;first|refine cN ?_|(refine gD ?_;first|refine cI ?_|refine cJ ?_)|refine ae.dec (λhc=>?_) (λhc=>?_))|refine ak.nrm ?_)<;>conv=>whnf
 all_goals (refine Gy ?_;simp[*])
theorem EK{bs:List Box}{c:Nat}{k x:Ky}(hbb:al bs.length bs=true)(hp:aa bs c=some [.str k.name,.int .i64 k.arity,slA aK k.positions]):AM.Sem Tryz.prog 122 [x.av,.ptr c 0] bs λr bs'=>r=.bool (decide (x=k))/\bs'=bs:=by
 refine ox (by simp) ?_
 conv=>whnf
 try dsimp only
 repeat' refine gB (.last ?_)<;>(conv=>whnf;try dsimp only)
 refine kD.of (cs:=[.str k.name,.int .i64 k.arity,slA aK k.positions]) (by rw[aI,if_neg (by have:=aC hp;omega)];exact hp) ?_
 conv=>whnf
 try dsimp only
 repeat' (refine gF ?_;refine ag.fn (BH (a:=x) (b:=k)) ?_)<;>(conv=>whnf;try dsimp only)
 refine ak.oU rfl (zG _) rfl hbb ?_;exact ak.slot ⟨rfl,rfl⟩
theorem yq{bs:List Box}{c:Nat}{k:Ky}{l:List Ky}(hl:l.length<=100000)(hbb:al bs.length bs=true)(hp:aa bs c=some [.str k.name,.int .i64 k.arity,slA aK k.positions]):AM.Sem Tryz.prog 174 [slA Ky.av l,.fn (.func 122) [] [.ptr c 0]] bs λr bs'=>r=.int .i64 (dS (λx=>decide (x=k)) l)/\bs'=bs:=by
 refine df (by simp) ?_
 conv=>whnf
 repeat' refine gL (.map ?_)<;>conv=>whnf
 refine az.count (fb:=false) l.length (λst_ j=>⟨[(0,slA Ky.av l),(1,.fn (.func 122) [] [.ptr c 0]),(7,.int .i64 l.length),(8,.int .i64 j)],bs,bs.length⟩) (λj=>∀i x,i<j->l[i]? =some x->decide (x=k)=false) bZ ?_ (λj hj hij=>?_) (λhij=>?_)
 .refine aq.atS ?_ rfl rfl
  conv=>whnf
  repeat' (first|(refine gV ?_;first|refine vE ?_|refine vI ?_)|exact True.intro)<;>conv=>whnf
 .obtain ⟨y,hy⟩:∃y,l[j]? =some y:=⟨_,zA hj⟩
  conv=>whnf
  repeat' (first|refine gC (gD (cI ?_))|refine gI (gM (iE ?_))|refine gH (hB ?_))<;>conv=>whnf
  refine ag.raw (EK (x:=y) hbb hp) ?_;rintro r bs' ⟨rfl,rfl⟩
  conv=>whnf
  repeat' (first|(refine gC ?_;refine ae.dec (λhc=>?_) (λhc=>?_))|refine gW (wI ?_))<;>conv=>whnf
  .refine ak.slot ⟨?_,rfl⟩;rw[fa hij hy (decide_eq_true hc)];rfl
  .refine ⟨bJ hij hy (decide_eq_false hc),?_⟩;refine aq.atS ?_ rfl rfl
   conv=>whnf
   repeat' (first|(refine gV ?_;first|refine vE ?_|refine vI ?_)|exact True.intro)<;>conv=>whnf
 .conv=>whnf
  repeat' refine gC (gD (cJ ?_))<;>conv=>whnf
  refine ak.slot ⟨?_,rfl⟩;rw[hU hij];rfl
theorem mw{bs:List Box}{c:Nat}{k:Ky}{l:List Ky}(hl:l.length<=100000)(hbb:al bs.length bs=true)(hp:aa bs c=some [.str k.name,.int .i64 k.arity,slA aK k.positions]):AM.Sem Tryz.prog 121 [slA Ky.av l,.fn (.func 122) [] [.ptr c 0]] bs λr bs'=>r=.bool (decide (k∈l))/\bs'=bs:=by
 have e:decide (k∈l)=l.any λx=>decide (x=k):=by
  rw[Bool.eq_iff_iff,decide_eq_true_eq,List.any_eq_true];exact⟨λh=>⟨k,h,decide_eq_true rfl⟩,λ⟨x,h,q⟩=>(of_decide_eq_true q)▸h⟩
 rw[e,<-eH];refine cR (by simp) ?_
 conv=>whnf
 skip;refine ag.raw (yq hl hbb hp) ?_;rintro r bs' ⟨rfl,rfl⟩
 conv=>whnf
 skip;exact ak.slot ⟨rfl,rfl⟩
def dM(l:List Rl):Nat->List Ky
 |0=>[]
 |j+1=>match l[j]? with
  |none=>dM l j
  |some r=>match kV r with
   |none=>dM l j
   |some k=>if k∈dM l j then dM l j else dM l j++[k]
def oJ(p:Pg):List Ky:=dM p.rules p.rules.length
theorem pH(l:List Rl):∀j,(dM l j).length<=j
 |0=>zG _
 |j+1=>by
  have:=pH l j;rw[dM];split
  .omega
  .split
   .omega
   .split
    .omega
    .simp;omega
theorem EJ{l:List Rl}{j:Nat}{r:Rl}(h:l[j]? =some r):dM l (j+1)=match kV r with
   |none=>dM l j
   |some k=>if k∈dM l j then dM l j else dM l j++[k]:=by rw[dM,h]
set_option maxHeartbeats 1000000 in
theorem Gg{p:Pg}(hp:p.fit):Fun Tryz.prog 65 [p.av] (slA Ky.av (oJ p)):=by
 have hpl:=hp.few;refine Fun.of (sB (by simp) ?_) rfl rfl
 conv=>whnf
 repeat' refine gL (.map ?_)<;>conv=>whnf
 refine az.count (fb:=true) (p.rules.length) (λst_ j=>st_.bD [(3,.sl (.own 3) ((dM p.rules j).map Ky.av)),(11,.int .i64 j)]) (λ_=>True) trivial ?_ (λj hj _=>?_) (λ_=>?_)
 .refine aq.at_ ?_ rfl
  conv=>whnf
  refine And.intro ?_ ?_<;>conv=>whnf
  all_goals repeat' (first|(refine gV ?_;first|refine vE ?_|refine vI ?_|((refine gK ?_;refine vD ?_ ?_);(focus (simp[AV.norm,AV.aj,dM];done))))|refine gX (xB ?_)|exact True.intro)<;>conv=>whnf
 .obtain ⟨r,hr⟩:∃r,p.rules[j]? =some r:=⟨_,zA hj⟩;have hrm:=zE hr;have hkl:=pH p.rules j;have hka:=EJ hr;have hor:=C6 (hp.ok2 r hrm) (hp.okG r hrm)
  cases ho:kV r with
  |none=>
   rw[ho] at hka hor;dsimp only at hka;simp only[oz] at hor
   conv=>whnf
   repeat' (first|refine gF (ag.fn (hor) ?_)|(refine gC ?_;first|refine cN ?_|refine gD (cI ?_))|refine gW (wI ?_)|refine gI (gM (iE ?_)))<;>conv=>whnf
   refine⟨trivial,?_⟩;refine aq.atC 1 ?_ rfl rfl rfl rfl (by first|rfl|(repeat' (first|rfl|refine ao (row_allI _ _ _) ?_|refine ao (aw _ _ _) ?_|refine bLtMp ?_|refine aB ?_|refine bLtCells rfl ?_)))
   conv=>whnf
   refine And.intro ?_ ?_<;>conv=>whnf
   all_goals repeat' (first|(refine gV ?_;first|refine vE ?_|refine vI ?_|(refine WkN.sl ?_ ?_;(focus (simp[AV.norm,AV.aj,hka];done))))|refine gX (xB ?_)|exact True.intro)<;>conv=>whnf
  |some k=>
   rw[ho] at hka hor;dsimp only at hka;simp only[oz] at hor
   by_cases hm:k∈dM p.rules j
   .rw [if_pos hm] at hka;have hcn:=λ{bs:List Box} {c:Nat} h1 h2=>mw (bs:=bs) (c:=c) (k:=k) (l:=dM p.rules j) (by omega) h1 h2
    rw[decide_eq_true hm] at hcn
    conv=>whnf
    repeat' (first|(refine gF ?_;first|refine ag.fn (hor) ?_|refine ag.to (hcn (by first|rfl|(repeat' (first|rfl|refine ao (row_allI _ _ _) ?_|refine ao (aw _ _ _) ?_|refine bLtMp ?_|refine aB ?_|refine bLtCells rfl ?_))) rfl) ?_)|(refine gC ?_;first|refine cY ?_|refine .not ?_|refine gD (cI ?_))|refine gW (wI ?_)|refine gI (gM (iE ?_)))<;>conv=>whnf
    refine⟨trivial,?_⟩;refine aq.atC 1 ?_ rfl rfl rfl rfl (by first|rfl|(repeat' (first|rfl|refine ao (row_allI _ _ _) ?_|refine ao (aw _ _ _) ?_|refine bLtMp ?_|refine aB ?_|refine bLtCells rfl ?_)))
    conv=>whnf
    refine And.intro ?_ ?_<;>conv=>whnf
    all_goals repeat' (first|(refine gV ?_;first|refine vE ?_|refine vI ?_|(refine WkN.sl ?_ ?_;(focus (simp[AV.norm,AV.aj,hka];done))))|refine gX (xB ?_)|exact True.intro)<;>conv=>whnf
   .rw [if_neg hm] at hka;have hcn:=λ{bs:List Box} {c:Nat} h1 h2=>mw (bs:=bs) (c:=c) (k:=k) (l:=dM p.rules j) (by omega) h1 h2
    rw[decide_eq_false hm] at hcn
    conv=>whnf
    repeat' (first|(refine gF ?_;first|refine ag.fn (hor) ?_|refine ag.to (hcn (by first|rfl|(repeat' (first|rfl|refine ao (row_allI _ _ _) ?_|refine ao (aw _ _ _) ?_|refine bLtMp ?_|refine aB ?_|refine bLtCells rfl ?_))) rfl) ?_)|(refine gC ?_;first|refine cY ?_|refine cN ?_|refine .not ?_|refine gD (cI ?_))|refine gW (wI ?_)|refine gN (nS ?_)|refine gI (gM (iE ?_)))<;>conv=>whnf
    refine⟨trivial,?_⟩;refine aq.atC 1 ?_ rfl rfl rfl rfl (by first|rfl|(repeat' (first|rfl|refine ao (row_allI _ _ _) ?_|refine ao (aw _ _ _) ?_|refine bLtMp ?_|refine aB ?_|refine bLtCells rfl ?_)))
    conv=>whnf
    refine And.intro ?_ ?_<;>conv=>whnf
    all_goals repeat' (first|(refine gV ?_;first|refine vE ?_|refine vI ?_|(refine WkN.sl ?_ ?_;(focus (simp[AV.norm,AV.aj,hka,Ky.av];done))))|refine gX (xB ?_)|exact True.intro)<;>conv=>whnf
 .conv=>whnf
  repeat' (first|refine gC (gD (cJ ?_))|refine ak.nrm ?_)<;>conv=>whnf
  rfl
def allI(p:Pg):List Pl:=p.occs.map (ofI p (oJ p))
set_option maxHeartbeats 1000000 in
theorem A5{p:Pg}(hp:p.fit)(hl:p.occs.length<=1000000):Fun Tryz.prog 21 [p.av] (slA Pl.av (allI p)):=by
 have hpl:=hp.few
 have hkl:(oJ p).length<=100000:=by
  have:=pH p.rules p.rules.length;unfold oJ;omega
 refine Fun.of (xZ (by simp) ?_) rfl rfl
 conv=>whnf
 repeat' (first|(refine gF ?_;first|refine ag.fn (Gg hp) ?_|refine ag.fn (BS hp.ok hp.few) ?_)|refine gL (.map ?_))<;>conv=>whnf
 rw[allI];have hof:=λo=>FZ (o:=o) hp hkl;generalize oJ p=keys at*;generalize p.occs=l at*;refine az.count (fb:=true) (l.length) (λst_ j=>st_.bD [(4,.sl (.own 6) (((l.take j).map (ofI p keys)).map Pl.av)),(12,.int .i64 j)]) (λ_=>True) trivial ?_ (λj hj _=>?_) (λ_=>?_)
 .refine aq.at_ ?_ rfl
  conv=>whnf
  refine And.intro ?_ ?_<;>conv=>whnf
  all_goals repeat' (first|(refine gV ?_;first|refine vE ?_|refine vI ?_|((refine gK ?_;refine vD ?_ ?_);(focus (simp[AV.norm,AV.aj,];done))))|refine gX (xB ?_)|exact True.intro)<;>conv=>whnf
 .obtain ⟨o,ho⟩:∃o,l[j]? =some o:=⟨_,zA hj⟩
  have hs:l.take (j+1)=l.take j++[o]:=by
   rw[List.take_succ_eq_append_getElem hj,(zB.1 ho).2]
  have htl:=List.length_take_le j l;have hml:(List.map (ofI p keys) (l.take j)).length<=j:=by rw[zF];omega
  conv=>whnf
  repeat' (first|refine gF (ag.fn (hof o) ?_)|refine gC (gD (cI ?_))|refine gW (wI ?_)|refine gN (nS ?_)|refine gI (gM (iE ?_)))<;>conv=>whnf
  refine⟨trivial,?_⟩;refine aq.atC 1 ?_ rfl rfl rfl rfl (by first|rfl|(repeat' (first|rfl|refine ao (row_allI _ _ _) ?_|refine ao (aw _ _ _) ?_|refine bLtMp ?_|refine aB ?_|refine bLtCells rfl ?_)))
  conv=>whnf
  refine And.intro ?_ ?_<;>conv=>whnf
  all_goals repeat' (first|(refine gV ?_;first|refine vE ?_|refine vI ?_|(refine WkN.sl ?_ ?_;(focus (simp[AV.norm,AV.aj,hs,Pl.av];done))))|refine gX (xB ?_)|exact True.intro)<;>conv=>whnf
 .conv=>whnf
  repeat' (first|refine gC (gD (cJ ?_))|refine ak.nrm ?_)<;>conv=>whnf
  rw[zz]
end Go.CK
namespace Go.CK
open Go.AM Go.Proofs
def At.zero:At:=⟨.empty,[]⟩
def cC(p:Pg)(x:Pl)(k:Int):Option (At×List Int):=
 if k<0\/(x.order.length:Int)<=k\/x.occ.rule<0\/(p.rules.length:Int)<=x.occ.rule then none else match p.rules[x.occ.rule.toNat]? with
 |none=>none
 |some r=>match x.order[k.toNat]? with
  |none=>none
  |some n=>if n<0\/(r.ah.length:Int)<=n then none else match r.ah[n.toNat]? with
   |none=>none
   |some h=>some (h,if k<x.known.length then (x.known[k.toNat]?).getD [] else [])
def hO(p:Pg)(x:Pl)(k:Int):AV:=match cC p x k with
 |some y=>.tup [y.1.av,slA aK y.2,.bool true]
 |none=>.tup [At.zero.av,.sl .no [],.bool false]
theorem EV{p:Pg}{x:Pl}{k:Int}(h:k<0\/(x.order.length:Int)<=k\/x.occ.rule<0\/(p.rules.length:Int)<=x.occ.rule):hO p x k=.tup [At.zero.av,.sl .no [],.bool false]:=by rw[hO,cC,if_pos h]
theorem EU{p:Pg}{x:Pl}{k n:Int}{r:Rl}(h:¬(k<0\/(x.order.length:Int)<=k\/x.occ.rule<0\/(p.rules.length:Int)<=x.occ.rule))(hr:p.rules[x.occ.rule.toNat]? =some r)(hn:x.order[k.toNat]? =some n)(h2:n<0\/(r.ah.length:Int)<=n):hO p x k=.tup [At.zero.av,.sl .no [],.bool false]:=by
 rw[hO,cC,if_neg h,hr,hn];simp only[if_pos h2]
theorem yw{p:Pg}{x:Pl}{k n:Int}{r:Rl}{g:At}{ps:List Int}(h:¬(k<0\/(x.order.length:Int)<=k\/x.occ.rule<0\/(p.rules.length:Int)<=x.occ.rule))(hr:p.rules[x.occ.rule.toNat]? =some r)(hn:x.order[k.toNat]? =some n)(h2:¬(n<0\/(r.ah.length:Int)<=n))(hg:r.ah[n.toNat]? =some g)(hp:(if k<x.known.length then (x.known[k.toNat]?).getD [] else [])=ps):hO p x k=.tup [g.av,slA aK ps,.bool true]:=by
 rw[hO,cC,if_neg h,hr,hn];simp only[if_neg h2,hg,hp]
def Pg.ok8(p:Pg):Prop:=∀r∈p.rules,r.aE.length+r.remove.length<=8
theorem wT{p:Pg}{x:Pl}{k:Int}(hp:p.ok8):Fun Tryz.prog 68 [p.av,x.av,.int .i64 k] (hO p x k):=by
 by_cases h1:k<0\/(x.order.length:Int)<=k\/x.occ.rule<0\/(p.rules.length:Int)<=x.occ.rule
 .rw [EV h1];refine Fun.of (dJ (by simp) ?_) rfl rfl
  conv=>whnf
  repeat' (first|(refine gC ?_;first|refine cY ?_|(refine gD ?_;first|refine cI ?_|refine cJ ?_)|refine ae.lt (λhc=>?_) (λhc=>?_)|refine ae.le (λhc=>?_) (λhc=>?_))|refine gL (.map ?_)|refine ak.nrm ?_)<;>conv=>whnf
  all_goals first|rfl|(exfalso;omega)
 .obtain ⟨r,hr⟩:∃r,p.rules[x.occ.rule.toNat]? =some r:=⟨_,zA (by omega)⟩
  obtain⟨n,hn⟩:∃n,x.order[k.toNat]? =some n:=⟨_,zA (by omega)⟩
  have hrl:=hp r (zE hr);have hhl:r.ah.length<=8:=by rw[Rl.bK];exact hrl
  by_cases h2:n<0\/(r.ah.length:Int)<=n
  .rw [EU h1 hr hn h2];refine Fun.of (dJ (by simp) ?_) rfl rfl
   conv=>whnf
   repeat' (first|(refine gG ?_;refine a6.fn (dP (x:=r) (by omega)) ?_)|(refine gC ?_;first|refine cY ?_|(refine gD ?_;first|refine cI ?_|refine cJ ?_)|refine ae.lt (λhc=>?_) (λhc=>?_))|refine gL (.map ?_)|refine gI (gM (iF ?_))|refine ak.nrm ?_)<;>conv=>whnf
   all_goals first|rfl|(exfalso;omega)
  .obtain ⟨g,hg⟩:∃g,r.ah[n.toNat]? =some g:=⟨_,zA (by omega)⟩
   by_cases h3:k<x.known.length
   .obtain ⟨ps,hps⟩:∃ps,x.known[k.toNat]? =some ps:=⟨_,zA (by omega)⟩
    rw[yw h1 hr hn h2 hg (by rw[if_pos h3,hps];first|rfl|skip)]
    refine Fun.of (dJ (by simp) ?_) rfl rfl
    conv=>whnf
    repeat' (first|(refine gG ?_;refine a6.fn (dP (x:=r) (by omega)) ?_)|(refine gC ?_;(refine gD ?_;first|refine cI ?_|refine cJ ?_))|refine gL (.map ?_)|refine gI (gM (iF ?_))|refine ak.nrm ?_)<;>conv=>whnf
    all_goals first|rfl|(exfalso;omega)
   .rw [yw h1 hr hn h2 hg (if_neg h3)];refine Fun.of (dJ (by simp) ?_) rfl rfl
    conv=>whnf
    repeat' (first|(refine gG ?_;refine a6.fn (dP (x:=r) (by omega)) ?_)|refine gC (gD (cJ ?_))|refine gL (.map ?_)|refine gI (gM (iF ?_))|refine ak.nrm ?_)<;>conv=>whnf
    all_goals first|rfl|(exfalso;omega)
def tS(x y:Ac):Bool:=decide (x.name=y.name)&&(decide (x.arity=y.arity)&&decide (x.positions=y.positions))
def fy(a:At)(ps:List Int):Ac:=⟨a.name,a.args.length,ps⟩
def lJ(y:Ac)(x:Ac):Bool:=tS x y
theorem E8{a:At}{ps:List Int}{x:Ac}:AM.Sem Tryz.prog 130 [x.av,.ptr 0 0,.ptr 1 0] [.cells [.str a.name,.sl .no (a.args.map Tm.av)],.cells [.sl .no (ps.map aK)]] λr bs'=>r=.bool (lJ (fy a ps) x)/\bs'=[.cells [.str a.name,.sl .no (a.args.map Tm.av)],.cells [.sl .no (ps.map aK)]]:=by
 refine pr (by simp) ?_
 conv=>whnf
 repeat' (first|(refine gF ?_;refine ag.fn (vr (a:=x.positions) (b:=ps)) ?_)|(refine gC ?_;first|refine cN ?_|(refine gD ?_;first|refine cI ?_|refine cJ ?_)|refine ae.dec (λhc=>?_) (λhc=>?_))|refine gL (.map ?_))<;>conv=>whnf
 all_goals refine ak.cut 2 (zG _) (by simp) rfl rfl ?_
 all_goals refine ak.slot ⟨?_,rfl⟩
 all_goals simp[St.get,au,lJ,tS,fy, *]
 all_goals rfl
def fbs(a:At)(ps:List Int):List Box:=[.cells [.str a.name,.sl .no (a.args.map Tm.av)],.cells [.sl .no (ps.map aK)]]
theorem Bt{a:At}{ps:List Int}{l:List Ac}:AM.Sem Tryz.prog 94 [slA Ac.av l,.fn (.func 130) [] [.ptr 0 0,.ptr 1 0]] (fbs a ps) λr bs'=>r=.int .i64 (dS (lJ (fy a ps)) l)/\bs'=fbs a ps:=by
 unfold fbs;refine Sem.assume λhg0 _=>?_;have hg:=(aU (hg0 (slA Ac.av l) (by simp) rfl)).1
 refine bB (by simp) ?_
 conv=>whnf
 repeat' refine gL (.map ?_)<;>conv=>whnf
 refine az.count (fb:=true) (l.length) (λst_ j=>st_.bD [(8,.int .i64 j)]) (λj=>∀i x,i<j->l[i]? =some x->lJ (fy a ps) x=false) ?_ ?_ (λj hj hij=>?_) (λhij=>?_)
 .exact bZ
 .exact bq
 .obtain ⟨y,hy⟩:∃y,l[j]? =some y:=⟨_,zA hj⟩
  conv=>whnf
  repeat' (first|refine gC (gD (cI ?_))|refine gI (gM (iE ?_))|refine gH (hB ?_))<;>conv=>whnf
  refine ag.raw (E8 (a:=a) (ps:=ps) (x:=y)) ?_;rintro r bs' ⟨rfl,rfl⟩
  conv=>whnf
  repeat' (first|(refine gC ?_;refine ae.any (λhc=>?_) (λhc=>?_))|refine gW (wI ?_))<;>conv=>whnf
  .refine ak.slot ⟨?_,rfl⟩;rw[fa hij hy hc];rfl
  .refine ⟨bJ hij hy hc,?_⟩;exact bq
 .conv=>whnf
  repeat' refine gC (gD (cJ ?_))<;>conv=>whnf
  refine ak.slot ⟨?_,rfl⟩;rw[hU hij];rfl
theorem u9{l:List Ac}{a:At}{ps:List Int}:Fun Tryz.prog 69 [slA Ac.av l,a.av,slA aK ps] (.int .i64 (dS (lJ (fy a ps)) l)):=by
 refine Fun.of (ss (by simp) ?_) rfl rfl
 conv=>whnf
 skip;refine ag.raw (Bt (a:=a) (ps:=ps) (l:=l)) ?_;rintro r bs' ⟨rfl,rfl⟩
 conv=>whnf
 skip;exact ak.slot rfl
theorem AF(x:Ac):tS x x=true:=by simp[tS]
def ij(p:Pg)(x:Pl)(out:List Ac)(k:Int):List Ac:=match cC p x k with
 |some y=>if dS (lJ (fy y.1 y.2)) out<0 then out++[fy y.1 y.2] else out
 |none=>out
def ll(p:Pg)(x:Pl)(out:List Ac):Nat->List Ac
 |0=>out
 |k+1=>ij p x (ll p x out k) k
def ie(p:Pg)(plans:List Pl):Nat->List Ac
 |0=>[]
 |j+1=>match plans[j]? with
  |some x=>ll p x (ie p plans j) x.order.length
  |none=>ie p plans j
theorem BX(p:Pg)(x:Pl)(out:List Ac)(k:Int):(ij p x out k).length<=out.length+1:=by
 unfold ij;split
 .split<;>simp
 .omega
theorem tO(p:Pg)(x:Pl)(out:List Ac):∀k,(ll p x out k).length<=out.length+k
 |0=>zG _
 |k+1=>by
  have h1:=tO p x out k;have h2:=BX p x (ll p x out k) k;rw[ll];omega
theorem tQ{p:Pg}{plans:List Pl}(h:∀x∈plans,x.order.length<=8):∀j,(ie p plans j).length<=8*j
 |0=>zG _
 |j+1=>by
  have h1:=tQ (p:=p) h j;rw[ie];split
  .rename_i x hx;have h2:=tO p x (ie p plans j) x.order.length;have h3:=h x (zE hx);omega
  .omega
def ew(p:Pg)(plans:List Pl):List Ac:=ie p plans plans.length
end Go.CK
namespace Go.CK
open Go.AM Go.Proofs
theorem s7{p:Pg}{x:Pl}{k:Int}(h:cC p x k=none):hO p x k=.tup [At.zero.av,.sl .no [],.bool false]:=by rw[hO,h]
theorem s6{p:Pg}{x:Pl}{k:Int}{y:At×List Int}(h:cC p x k=some y):hO p x k=.tup [y.1.av,slA aK y.2,.bool true]:=by rw[hO,h]
theorem yg{p:Pg}{plans:List Pl}(hp:p.ok8)(hp2:∀x∈plans,x.order.length<=8)(hp3:plans.length<=1000):Fun Tryz.prog 22 [p.av,slA Pl.av plans] (slA Ac.av (ew p plans)):=by
 unfold ew;have hlen:=tQ (p:=p) hp2;refine Fun.of (um (by simp) ?_) rfl rfl
 conv=>whnf
 repeat' refine gL (.map ?_)<;>conv=>whnf
 refine az.count (fb:=true) plans.length (λst_ j=>st_.bD [(5,.sl (.own 3) ((ie p plans j).map Ac.av)),(14,.int .i64 j)]) (λ_=>True) trivial ?_ (λj hj _=>?_) (λ_=>?_)
 .refine aq.at_ ?_ rfl
  conv=>whnf
  refine And.intro ?_ ?_<;>conv=>whnf
  all_goals repeat' (first|(refine gV ?_;first|refine vE ?_|refine vI ?_|((refine gK ?_;refine vD ?_ ?_);(focus (simp[AV.norm,AV.aj,ie];done))))|refine gX (xB ?_)|exact True.intro)<;>conv=>whnf
 .obtain ⟨x,hx⟩:∃x,plans[j]? =some x:=⟨_,zA hj⟩;have hxo:=hp2 x (zE hx);have hl1:=hlen j;have hsj:ie p plans (j+1)=ll p x (ie p plans j) x.order.length:=by rw[ie,hx]
  conv=>whnf
  repeat' (first|refine gC (gD (cI ?_))|refine gL (.map ?_)|refine gI (gM (iE ?_)))<;>conv=>whnf
  refine az.count (fb:=true) x.order.length (λst_ k=>st_.bD [(5,.sl (.own 3) ((ll p x (ie p plans j) k).map Ac.av)),(21,.int .i64 k)]) (λ_=>True) trivial ?_ (λk hk _=>?_) (λ_=>?_)
  .refine aq.at_ ?_ rfl
   conv=>whnf
   refine And.intro ?_ ?_<;>conv=>whnf
   all_goals repeat' (first|(refine gV ?_;first|refine vE ?_|refine vI ?_|(refine WkN.sl ?_ ?_;(focus (simp[AV.norm,AV.aj,ll];done))))|refine gX (xB ?_)|exact True.intro)<;>conv=>whnf
  .have hl2:=tO p x (ie p plans j) k;have hH:=wT (p:=p) (x:=x) (k:=(k:Int)) hp
   cases hI:cC p x k with
   |none=>
    rw[s7 hI] at hH;have hs:ll p x (ie p plans j) (k+1)=ll p x (ie p plans j) k:=by rw[ll,ij,hI]
    conv=>whnf
    repeat' (first|refine gF (ag.fn (hH) ?_)|(refine gC ?_;first|refine cN ?_|refine gD (cI ?_))|refine gW (wI ?_))<;>conv=>whnf
    refine⟨trivial,?_⟩;refine aq.atC 2 ?_ rfl rfl rfl rfl (by first|rfl|(repeat' (first|rfl|refine ao (row_allI _ _ _) ?_|refine ao (aw _ _ _) ?_|refine bLtMp ?_|refine aB ?_|refine bLtCells rfl ?_)))
    conv=>whnf
    refine And.intro ?_ ?_<;>conv=>whnf
    all_goals repeat' (first|(refine gV ?_;first|refine vE ?_|refine vI ?_|(refine WkN.sl ?_ ?_;(focus (simp[AV.norm,AV.aj,hs];done))))|refine gX (xB ?_)|exact True.intro)<;>conv=>whnf
   |some y=>
    rw[s6 hI] at hH;have hs:ll p x (ie p plans j) (k+1)=if dS (lJ (fy y.1 y.2)) (ll p x (ie p plans j) k)<0 then ll p x (ie p plans j) k++[fy y.1 y.2] else ll p x (ie p plans j) k:=by rw[ll,ij,hI]
    conv=>whnf
    repeat' (first|(refine gF ?_;first|refine ag.fn (hH) ?_|refine ag.fn (u9) ?_)|(refine gC ?_;first|refine cY ?_|refine gD (cI ?_)|refine ae.lt (λhc=>?_) (λhc=>?_))|refine gW (wI ?_)|refine gL (.map ?_)|refine gN (nS ?_))<;>conv=>whnf
    .rw [if_pos hc] at hs;refine⟨trivial,?_⟩;refine aq.atC 2 ?_ rfl rfl rfl rfl (by first|rfl|(repeat' (first|rfl|refine ao (row_allI _ _ _) ?_|refine ao (aw _ _ _) ?_|refine bLtMp ?_|refine aB ?_|refine bLtCells rfl ?_)))
     conv=>whnf
     refine And.intro ?_ ?_<;>conv=>whnf
     all_goals repeat' (first|(refine gV ?_;first|refine vE ?_|refine vI ?_|(refine WkN.sl ?_ ?_;(focus (simp[AV.norm,AV.aj,hs,Ac.av,fy];done))))|refine gX (xB ?_)|exact True.intro)<;>conv=>whnf
    .rw [if_neg (by omega)] at hs
     refine⟨trivial,?_⟩;refine aq.atC 2 ?_ rfl rfl rfl rfl (by first|rfl|(repeat' (first|rfl|refine ao (row_allI _ _ _) ?_|refine ao (aw _ _ _) ?_|refine bLtMp ?_|refine aB ?_|refine bLtCells rfl ?_)))
     conv=>whnf
     refine And.intro ?_ ?_<;>conv=>whnf
     all_goals repeat' (first|(refine gV ?_;first|refine vE ?_|refine vI ?_|(refine WkN.sl ?_ ?_;(focus (simp[AV.norm,AV.aj,hs];done))))|refine gX (xB ?_)|exact True.intro)<;>conv=>whnf
  .rw [<-hsj]
   conv=>whnf
   repeat' (first|refine gC (gD (cJ ?_))|refine gW (wI ?_))<;>conv=>whnf
   refine⟨trivial,?_⟩;refine aq.atC 1 ?_ rfl rfl rfl rfl (by first|rfl|(repeat' (first|rfl|refine ao (row_allI _ _ _) ?_|refine ao (aw _ _ _) ?_|refine bLtMp ?_|refine aB ?_|refine bLtCells rfl ?_)))
   conv=>whnf
   refine And.intro ?_ ?_<;>conv=>whnf
   all_goals repeat' (first|(refine gV ?_;first|refine vE ?_|refine vI ?_)|refine gX (xB ?_)|exact True.intro)<;>conv=>whnf
 .conv=>whnf
  repeat' (first|refine gC (gD (cJ ?_))|refine ak.nrm ?_)<;>conv=>whnf
end Go.CK
