/-
  Texts of this aQ joined (wip/gen/bundle.py),those declarations only that are needed:UnU UnW UlI UlJ UnX RcUnr. By an AI agent.
-/
import Derived.Test.YtahnpgfkkngimaaGreatBbc
set_option linter.unusedSimpArgs false
set_option linter.unusedVariables false
set_option maxRecDepth 100000
namespace Go.CK
open Go.AM Go.Proofs
theorem FA(l:List Int)(n:Int):(rU l n).length<=l.length+1:=by unfold rU;split<;>simp
theorem vA:∀(m l:List Int),(bE l m).length<=l.length+m.length
 |[],l=>by simp[bE]
 |n::m,l=>by
  have h1:=vA m (rU l n);have h2:=FA l n;show (bE (rU l n) m).length<=_;rw[ZX];omega
theorem uN(l:List Int):(dL l).length<=l.length:=by
 have:=vA l [];unfold dL;simpa using this
def mg(b:List Bnd)(t:Tm):Bool:=(dL t.vs).all λv=>(aX b v).isNone
set_option maxHeartbeats 1000000 in
theorem Fx(b:List Bnd)(hb:∀x∈b,x.t.vs.length<=100000):Fun Tryz.prog 72 [.sl .no (b.map Bnd.av)] (.bool (b.all λx=>mg b x.t)):=by
 refine Fun.of (Sem.assume λhg0 _=>?_) rfl rfl;have hg:=(bH (hg0 (.sl .no (b.map Bnd.av)) (by simp) rfl)).1
 refine jH (by simp) ?_
 conv=>whnf
 skip;refine aw.by (fb:=true) (λ_ (j:Nat)=>⟨[(0,.sl .no (b.map Bnd.av)),(3,.int .i64 (j:Int))],[],0⟩) (λj=>j<=b.length/\((b.drop j).all λx=>mg b x.t)=b.all λx=>mg b x.t) (λj=>b.length-j) 0 ⟨ZJ _,rfl⟩ ?_ ?_
 .exact au
 .rintro j ⟨q1,q2⟩
  by_cases hj:j<b.length
  .obtain ⟨x,hx⟩:∃x,b[j]? =some x:=⟨_,ZA hj⟩;rw[ZH hj,(ZB.1 hx).2,Yp] at q2;have hv:=Cf (hb x (ZE hx));obtain⟨L,hL⟩:∃L,L=dL x.t.vs:=⟨_,rfl⟩;have hLl:L.length<=100000:=by rw[hL];exact YM (uN _) (hb x (ZE hx))
   rw[<-hL] at hv;have hfr:mg b x.t=L.all λv=>(aX b v).isNone:=by rw[hL];rfl
   conv=>whnf
   repeat' (first|refine gF (ab.fn (hv) ?_)|refine gC (gD (cI ?_))|refine gL (.map ?_)|refine gI (gM (iE ?_)))<;>conv=>whnf
   refine aw.by (fb:=true) (λ_ (i:Nat)=>⟨[(0,.sl .no (b.map Bnd.av)),(3,.int .i64 (j:Int)),(4,.sl .no (L.map c7)),(5,.int .i64 (i:Int))],[],0⟩) (λi=>i<=L.length/\((L.drop i).all λv=>(aX b v).isNone)=mg b x.t) (λi=>L.length-i) 0 ⟨ZJ _,hfr.symm⟩ ?_ ?_
   .exact au
   .rintro i ⟨r1,r2⟩
    by_cases hi:i<L.length
    .obtain ⟨v,hv2⟩:∃v,L[i]? =some v:=⟨_,ZA hi⟩;rw[ZH hi,(ZB.1 hv2).2,Yp] at r2;have hl:=pa b v
     cases hlk:aX b v with
     |none=>
      rw[hlk] at hl;have hl:Fun Tryz.prog 84 [.sl .no (b.map Bnd.av),.int .i64 v] (.tup [.agg [.int .i64 0,.int .i64 0,.str ⟨⟨[]⟩⟩,.sl .no []],.bool false]):=hl;rw[hlk,Option.isNone_none,Za] at r2
      conv=>whnf
      repeat' (first|refine gF (ab.fn (hl) ?_)|(refine gC ?_;first|refine cN ?_|refine gD (cI ?_))|refine gW (wI ?_)|refine gL (.map ?_)|refine gI (gM (iE ?_)))<;>conv=>whnf
      refine⟨i+1,⟨⟨hi,r2⟩,by omega⟩,?_⟩
      refine ah.lay [] oko ?_
      conv=>whnf
      exact au
     |some y=>
      rw[hlk] at hl;have hl:Fun Tryz.prog 84 [.sl .no (b.map Bnd.av),.int .i64 v] (.tup [.agg [.int .i64 y.kind,.int .i64 y.num,.str y.name,.sl .no (y.args.map Tm.av)],.bool true]):=hl;rw[hlk,Option.isNone_some,Zu] at r2;rw[<-r2,Zu] at q2;rw[<-q2]
      conv=>whnf
      repeat' (first|refine gF (ab.fn (hl) ?_)|(refine gC ?_;first|refine cY ?_|refine gD (cI ?_))|refine gL (.map ?_)|refine gI (gM (iE ?_))|refine af.nrm ?_)<;>conv=>whnf
    .obtain rfl:i=L.length:=by omega
     rw[Zj,XE] at r2;rw[<-r2,Za] at q2
     conv=>whnf
     repeat' (first|refine gC (gD (cJ ?_))|refine gW (wI ?_)|refine gL (.map ?_))<;>conv=>whnf
     refine⟨j+1,⟨⟨hj,q2⟩,by omega⟩,?_⟩
     exact au
  .obtain rfl:j=b.length:=by omega
   rw[Zj,XE] at q2;rw[<-q2]
   conv=>whnf
   repeat' (first|refine gC (gD (cJ ?_))|refine gL (.map ?_)|refine af.nrm ?_)<;>conv=>whnf
def tK:Option Int->Int->Bool
 |none,_=>true
 |some p,v=>decide (p<v)
def mF:Option Int->List Bnd->Bool
 |_,[]=>true
 |p,x::l=>decide (0<=x.v/\x.v<=1048576)&&(tK p x.v&&(x.t.right&&mF (some x.v) l))
def cL(b:List Bnd):Bool:=mF none b&&b.all λx=>mg b x.t
def jD(b:List Bnd)(j:Nat):Option Int:=match j with
 |0=>none
 |j+1=>(b[j]?).map (·.v)
set_option maxHeartbeats 1000000 in
theorem EE(b:List Bnd)(hb:∀x∈b,x.t.nodes<=1000000/\x.t.vs.length<=100000):Fun Tryz.prog 29 [.sl .no (b.map Bnd.av)] (.bool (cL b)):=by
 refine Fun.of (Sem.assume λhg0 _=>?_) rfl rfl;have hg:=(bH (hg0 (.sl .no (b.map Bnd.av)) (by simp) rfl)).1
 have hap:=Fx b λx hx=>(hb x hx).2;refine jI (by simp) ?_
 conv=>whnf
 skip;refine aw.by (fb:=true) (λ_ (j:Nat)=>⟨[(0,.sl .no (b.map Bnd.av)),(3,.int .i64 (j:Int))],[],0⟩) (λj=>j<=b.length/\mF (jD b j) (b.drop j)=mF none b) (λj=>b.length-j) 0 ⟨ZJ _,rfl⟩ ?_ ?_
 .exact au
 .rintro j ⟨q1,q2⟩
  by_cases hj:j<b.length
  .obtain ⟨x,hx⟩:∃x,b[j]? =some x:=⟨_,ZA hj⟩;rw[ZH hj,(ZB.1 hx).2,mF] at q2;have hnext:jD b (j+1)=some x.v:=by simp only[jD,hx,ZM]
   have hr:=j6 x.t (by have:=(hb x (ZE hx)).1;omega)
   have hfalse:∀{z:Bool},z=mF none b->z=false->false=cL b:=λh1 h2=>by unfold cL;rw[<-h1,h2];rfl
   by_cases h1:0<=x.v/\x.v<=1048576
   rotate_left
   .rw [decide_eq_false h1,Zu] at q2;have hq:=hfalse q2 rfl;rw[<-hq]
    by_cases h2:0<=x.v
    .have h3:¬x.v<=1048576:=λe=>h1 ⟨h2,e⟩
     conv=>whnf
     repeat' (first|(refine gC ?_;first|refine cY ?_|(refine gD ?_;first|refine cI ?_|refine cJ ?_))|refine gL (.map ?_)|refine gI (gM (iE ?_))|refine af.nrm ?_)<;>conv=>whnf
    .conv=>whnf
     repeat' (first|(refine gC ?_;first|refine cY ?_|refine gD (cI ?_))|refine gL (.map ?_)|refine gI (gM (iE ?_))|refine af.nrm ?_)<;>conv=>whnf
   rw[decide_eq_true h1,Za] at q2;obtain⟨h2,h3⟩:=h1
   cases j with
   |zero=>
    simp only[jD,tK,Za] at q2
    cases hxr:x.t.right with
    |false=>
     rw[hxr] at hr q2;have hq:=hfalse q2 rfl;rw[<-hq]
     conv=>whnf
     repeat' (first|refine gG (aM.fn (hr) ?_)|(refine gC ?_;first|refine cN ?_|refine .not ?_|(refine gD ?_;first|refine cI ?_|refine cJ ?_))|refine gL (.map ?_)|refine gI (gM (iE ?_))|refine af.nrm ?_)<;>conv=>whnf
    |true=>
     rw[hxr,Za] at q2;rw[hxr] at hr
     conv=>whnf
     repeat' (first|refine gG (aM.fn (hr) ?_)|(refine gC ?_;first|refine cY ?_|refine cN ?_|refine .not ?_|(refine gD ?_;first|refine cI ?_|refine cJ ?_))|refine gW (wI ?_)|refine gL (.map ?_)|refine gI (gM (iE ?_)))<;>conv=>whnf
     refine⟨0+1,⟨⟨hj,by rw[hnext];exact q2⟩,by omega⟩,?_⟩
     exact au
   |succ j=>
    obtain⟨y,hy⟩:∃y,b[j]? =some y:=⟨_,ZA (by omega)⟩
    have hy2:b[((((j+1:Nat):Int))-1).toNat]? =some y:=by rw[show ((((j+1:Nat):Int))-1).toNat=j by omega];exact hy
    simp only[jD,hy,ZM,tK] at q2
    by_cases h4:y.v<x.v
    rotate_left
    .rw [decide_eq_false h4,Zu] at q2;have hq:=hfalse q2 rfl;rw[<-hq]
     conv=>whnf
     repeat' (first|(refine gC ?_;first|refine cY ?_|(refine gD ?_;first|refine cI ?_|refine cJ ?_))|refine gW (wI ?_)|refine gL (.map ?_)|(refine gI ?_;(refine gM ?_;first|refine iE ?_|refine iF ?_))|refine af.nrm ?_)<;>conv=>whnf
    .rw [decide_eq_true h4,Za] at q2
     cases hxr:x.t.right with
     |false=>
      rw[hxr] at hr q2;have hq:=hfalse q2 rfl;rw[<-hq]
      conv=>whnf
      repeat' (first|refine gG (aM.fn (hr) ?_)|(refine gC ?_;first|refine cN ?_|refine .not ?_|(refine gD ?_;first|refine cI ?_|refine cJ ?_))|refine gW (wI ?_)|refine gL (.map ?_)|(refine gI ?_;(refine gM ?_;first|refine iE ?_|refine iF ?_))|refine af.nrm ?_)<;>conv=>whnf
     |true=>
      rw[hxr,Za] at q2;rw[hxr] at hr
      conv=>whnf
      repeat' (first|refine gG (aM.fn (hr) ?_)|(refine gC ?_;first|refine cY ?_|refine .not ?_|(refine gD ?_;first|refine cI ?_|refine cJ ?_))|refine gW (wI ?_)|refine gL (.map ?_)|(refine gI ?_;(refine gM ?_;first|refine iE ?_|refine iF ?_)))<;>conv=>whnf
      refine⟨j+1+1,⟨⟨hj,by rw[hnext];exact q2⟩,by omega⟩,?_⟩
      exact au
  .obtain rfl:j=b.length:=by omega
   rw[Zj,mF] at q2;have he:cL b=b.all λx=>mg b x.t:=by unfold cL;rw[<-q2,Za]
   rw[he]
   conv=>whnf
   repeat' (first|refine gF (ab.fn (hap) ?_)|refine gC (gD (cJ ?_))|refine gL (.map ?_)|refine af.nrm ?_)<;>conv=>whnf
end Go.CK
namespace Go.CK
open Go.AM Go.Proofs
def EW(x:Int):List Int->List Int
 |[]=>[x]
 |y::l=>if x<=y then x::y::l else y::EW x l
def AN:List Int->List Int
 |[]=>[]
 |x::l=>EW x (AN l)
theorem rE(x:Int):∀l:List Int,(EW x l).Perm (x::l)
 |[]=>.refl _
 |y::l=>by
  unfold EW;split
  .exact .refl _
  .exact ((rE x l).cons y).trans (.swap x y l)
theorem DQ(x:Int):∀l:List Int,l.Pairwise (·<=·)->(EW x l).Pairwise (·<=·)
 |[],_=>List.pairwise_singleton ..
 |y::l,h=>by
  rw[Zx] at h;unfold EW;split
  .rename_i hxy;rw[Zx];refine⟨λz hz=>?_,Zx.2 h⟩;rcases ZI.1 hz with rfl|hz
   .exact hxy
   .have:=h.1 z hz;omega
  .rename_i hxy;rw[Zx];refine⟨λz hz=>?_,DQ x l h.2⟩;rcases ZI.1 ((rE x l).mem_iff.1 hz) with rfl|hz
   .omega
   .exact h.1 z hz
theorem uC:∀l:List Int,(AN l).Perm l
 |[]=>.refl _
 |x::l=>(rE x _).trans ((uC l).cons x)
theorem AL:∀l:List Int,(AN l).Pairwise (·<=·)
 |[]=>.nil
 |x::l=>DQ x _ (AL l)
theorem zD(l:List Int):fm l=AN l:=
 List.Perm.eq_of_pairwise (λa b _ _ h1 h2=>by omega) (zC l) (AL l) ((lq l).trans (uC l).symm)
def yt(N f:Nat)(g:Gr):Option (List Bnd×Int):=match jh N f (List.range g.nodes.length) g with
 |none=>none
 |some (_,false)=>some ([],13)
 |some (g2,true)=>match fH N f (AN (g2.vars.map (·.1))) g2 [] with
  |none=>none
  |some (_,none)=>some ([],6)
  |some (_,some out)=>some (out,0)
def allI(N f:Nat)(a b:List Tm):Option (List Bnd×Int):=
 if (a.all Tm.right&&b.all Tm.right)=true then
  if a.length=b.length then match vY N f gr0 (a.zip b) with
   |none=>none
   |some (_,false)=>some ([],13)
   |some (g,true)=>yt N f g
  else some ([],9)
 else some ([],2)
theorem rT(N f:Nat)(a b:List Tm):wH N f a b=allI N f a b:=by
 have:fQ N f=yt N f:=by
  funext g;unfold fQ yt
  simp only[zD];rfl
 unfold wH allI;rw[this];rfl
end Go.CK
namespace Go.CK
open Go.AM
def PX(b:List Bnd)(v:Int):Tm:=match aX b v with
 |some t=>t
 |none=>az v
theorem PD(b:List Bnd)(t:Tm):t.cv->cR b t=app (PX b) t:=by
 induction t using Tm.bD with
 |h k n s l ih=>
 generalize ha:Tm.mk k n s l=t;replace ih:∀x∈t.args,x.cv->cR b x=app (PX b) x:=by subst ha;exact ih
 clear ha;intro hc
 by_cases h1:t.kind=1
 .rw [HN h1,app_1 h1,PX]
  cases hl:aX b t.num with
  |some u=>rfl
  |none=>exact jY hc h1
 .by_cases h2:t.kind=2
  .rw [HM h2,x6 h2];congr 1;exact List.map_congr_left λx hx=>ih x hx (PW hc hx)
  .rw [HL h1 h2,HK h1 h2]
theorem Pw:∀{b:List Bnd} {v:Int} {t:Tm},aX b v=some t->(⟨v,t⟩:Bnd)∈b
 |x::b,v,t,h=>by
  rw[aX] at h;split at h
  .rename_i hv;cases h;subst hv;exact ZV ..
  .exact ZQ _ (Pw h)
theorem Pk{a b:Int}(h:orI a b=0):a=0/\b=0:=by
 unfold orI at h;split at h
 .exact ⟨by assumption,h⟩
 .contradiction
theorem PI:∀(l m:List Tm),(∀x∈l,∀b:Tm,x.form=true->b.form=true->x.cmp b=0->x=b)->Tm.bN l=true->Tm.bN m=true->Tm.nD l m=0->l=m
 |[],m,_,_,_,h=>by
  rw[Tm.nD,KB] at h
  exact(ZL (by omega)).symm
 |x::l,[],_,_,_,h=>by rw[Tm.nD] at h;exact absurd h (by decide)
 |x::l,y::m,ih,hl,hm,h=>by
  simp only[Tm.bN,ZD] at hl hm;rw[Tm.nD] at h;have h:=Pk h;rw[ih x (ZV ..) y hl.1 hm.1 h.1,PI l m (λz hz=>ih z (ZQ _ hz)) hl.2 hm.2 h.2]
theorem PT(a:Tm):∀b:Tm,a.form=true->b.form=true->a.cmp b=0->a=b:=by
 induction a using Tm.bD with
 |h k n s l ih=>
 intro b ha hb h;obtain⟨k2,n2,s2,l2⟩:=b;rw[Tm.cmp] at h;have h:=Pk h;simp only[Tm.kind,Tm.num,Tm.name,Tm.args,KB] at h;obtain⟨hr,h⟩:=h
 by_cases h0:k=0
 .subst h0;have hk:k2=0:=by unfold iP at hr;repeat' split at hr<;>try omega
  subst hk;rw[if_pos (by decide),KB] at h
  rw[uL rfl,decide_eq_true_eq] at ha hb;simp only[Tm.kind,Tm.num,Tm.name,Tm.args,YW] at ha hb;rw[h,ha.2.2.1,hb.2.2.1,ha.2.2.2,hb.2.2.2]
 .by_cases h1:k=1
  .subst h1;have hk:k2=1:=by unfold iP at hr;repeat' split at hr<;>try omega
   subst hk;rw[if_pos (by decide),KB] at h
   rw[pj rfl,decide_eq_true_eq] at ha hb;simp only[Tm.kind,Tm.num,Tm.name,Tm.args,YW] at ha hb;rw[h,ha.2.2.1,hb.2.2.1,ha.2.2.2,hb.2.2.2]
  .by_cases h2:k=2
   .subst h2;have hk:k2=2:=by unfold iP at hr;repeat' split at hr<;>try omega
    subst hk;rw[if_neg (by decide),if_pos (by decide)] at h
    have h3:=Pk h;have h4:=Pk h3.2;rw[rI rfl] at ha hb;rw[ZD,ZD] at ha hb;rw[PY] at h4;have e1:n=0:=(of_decide_eq_true ha.1).1;have e2:n2=0:=(of_decide_eq_true hb.1).1;rw[e1,e2,h4.1,PI l l2 (λx hx b h1 h2 h3=>ih x hx b h1 h2 h3) ha.2.2 hb.2.2 h4.2]
   .rw [uK (t:=.mk k n s l) h0 h1 h2] at ha;cases ha
mutual
theorem zw:∀t:Tm,t.vs.length<=t.nodes
 |.mk k n s l=>by
  have:=wN l;rw[Tm.vs,Tm.nodes];split
  .simp
  .split
   .omega
   .simp
theorem wN:∀l:List Tm,(Tm.vss l).length<=Tm.ai l
 |[]=>by simp[Tm.vss]
 |t::r=>by
  have:=zw t;have:=wN r;simp only[Tm.vss,Tm.ai,ZC];omega
end
end Go.CK
namespace Go.CK
open Go.AM
def PZ(a b:List Tm)(out:List Bnd)(e:Int):Prop:=(if (a.all Tm.right&&b.all Tm.right)=true then (if a.length=b.length then Ans (Eqs (a.zip b)) out e else out=[]/\e=9) else out=[]/\e=2)/\Rng out
theorem PU{a b:List Tm}(hN:Tm.ai a+Tm.ai b<=300000000):∃out e,wH fN fF a b=some (out,e)/\PZ a b out e:=HT hN
theorem PA{a b:Tm}{σ:Int->Tm}:Eqs [(a,b)] σ↔app σ a=app σ b:=by
 unfold Eqs;simp
theorem PN{a b:Tm}{out:List Bnd}{e:Int}(h:PZ [a] [b] out e)(ha:a.right=true)(hb:b.right=true):Ans (Eqs [(a,b)]) out e:=by
 have h:=h.1;rw[if_pos (by simp[ha,hb]),if_pos (show [a].length=[b].length from rfl)] at h
 exact h
theorem Og:∀{l:List Tm} {x:Tm},x∈l->x.sz<=Tm.szs l
 |y::l,x,hm=>by
  simp only[Tm.szs];rcases ZI.1 hm with rfl|hm
  .omega
  .have:=Og hm;omega
end Go.CK
namespace Go.CK
open Go.AM Go.Proofs
def Bd.bnd(x:Bd):Bnd:=⟨x.var,x.term⟩
end Go.CK
namespace Go.CK
open Go.AM Go.Proofs
variable{vals:List AV}{bs:List Box}{Q:AV->List Box->Prop}
def dY:RC:=
 (.seq (rR [0,1] [oQ 4 (.mov (.c (.int .i64 0)))]) (.seq (.seq (rR [0,1,5] [oQ 5 (.mov (.c (.int .i64 0)))]) (.block 0 (.loop (.seq (.seq (rR [0,1,5,12] [qM 6 5,qM 7 0,qK 8 7,qF 9 0 8,oQ 10 (.lod 1 false 1 (.t 9)),oQ 11 (.len false (.t 10)),oQ 12 (.bin .lss (.t 6) (.t 11))]) (.cond (.t 12) .skip (.exit 0))) (.seq (.block 1 (.seq (rR [0,1,5,34] [qM 15 0,qK 16 15,qF 17 1 16,qL 18 17,qM 19 5,qI 20 1 18 19,qL 21 20,qM 22 1,oQ 23 (.bin .eql (.t 21) (.t 22)),qM 24 23,oG 25 24 true (.mov (.t 0)),oG 26 24 true (.iR (.t 25)),oG 27 24 true (.aT 0 (.t 26)),oG 28 24 true (.lod 1 false 1 (.t 27)),oG 29 24 true (.mov (.t 5)),oG 30 24 true (.idx 4 (.t 28) (.t 29)),oG 31 24 true (.aT 0 (.t 30)),oG 32 24 true (.load false 1 (.t 31)),oG 33 24 true (.bin .neq (.t 32) (.c (.int .i64 1))),oQ 34 (.pick (.t 24) (.t 33) (.c (.bool false)))]) (.cond (.t 34) (.seq (rR [4] [
 qM 35 5,qM 4 35]) .ret) .skip))) (rR [0,1,5] [qM 13 5,oQ 14 (.bin .add (.t 13) (.c (.int .i64 1))),qM 5 14])))))) (.seq (rR [4] [oQ 4 (.mov (.c (.int .i64 (-1))))]) .ret)))
theorem ei(hn:vals.length<=36)(h:SP Tryz.prog true vals bs dY [.slot 4] Q):AM.Sem Tryz.prog 154 vals bs Q:=
 oZ (keeps:=[(0,[0,1]),(1,[0,1,5]),(2,[0,1,5,12]),(4,[0,1,5,34]),(5,[4]),(3,[0,1,5]),(6,[4]),(1000000,[8010,8028])]) (solo:=[]) Tryz.func154 rfl hn h
def dZ:RC:=
 (.seq (rR [0,1] [oQ 4 (.mov (.c (.int .i64 0)))]) (.seq (rR [0,1,5] [oQ 5 (.mov (.c (.int .i64 (-1))))]) (.seq (.seq (rR [0,1,5,6] [oQ 6 (.mov (.c (.int .i64 0)))]) (.block 0 (.loop (.seq (.seq (rR [0,1,5,6,13] [qM 7 6,qM 8 0,qK 9 8,qF 10 0 9,oQ 11 (.lod 1 false 1 (.t 10)),oQ 12 (.len false (.t 11)),oQ 13 (.bin .lss (.t 7) (.t 12))]) (.cond (.t 13) .skip (.exit 0))) (.seq (.block 1 (.seq (rR [0,1,5,6,51] [qM 16 0,qK 17 16,qF 18 1 17,qL 19 18,qM 20 6,qI 21 1 19 20,qL 22 21,qM 23 1,oQ 24 (.bin .eql (.t 22) (.t 23)),qM 25 24,oG 26 25 true (.mov (.t 0)),oG 27 25 true (.iR (.t 26)),oG 28 25 true (.aT 0 (.t 27)),oG 29 25 true (.lod 1 false 1 (.t 28)),oG 30 25 true (.mov (.t 6)),oG 31 25 true (.idx 4 (.t 29) (.t 30)),oG 32 25 true (.aT 0 (.t 31)),oG 33 25 true (.load false 1 (.t 32)),oG 34 25 true (.bin .eql (.t 33) (.c (.int .i64 1))),oQ 35 (.pick (.t 25) (.t 34) (.c (.bool false))),qM 36 35,oG 37 36 true (.mov (.t 5)),oG 38 36 true (.bin .lss (.t 37) (.c (.int .i64 0))),oG 39 36 true (.mov (.t 38)),oG 40 39 false (.mov (.t 0)),oG 41 39 false (.iR (.t 40)),oG 42 39 false (.aT 0 (.t 41)),oG 43 39 false (.lod 1 false 1 (.t 42)),oG 44 39 false (.mov (.t 6)),oG 45 39 false (.idx 4 (.t 43) (.t 44)),oG 46 39 false (.aT 1 (.t 45)),oG 47 39 false (.load false 1 (.t 46)),oG 48 39 false (.mov (.t 5)),oG 49 39 false (.bin .lss (.t 47) (.t 48)),oG 50 36 true (.pick (.t 39) (.c (.bool true)) (.t 49)),oQ 51 (.pick (.t 36) (.t 50) (.c (.bool false)))])
 (.cond (.t 51) (rR [0,1,5,6] [qM 52 0,qK 53 52,qF 54 0 53,oQ 55 (.lod 1 false 1 (.t 54)),qM 56 6,qI 57 4 55 56,qF 58 1 57,qL 59 58,qM 5 59]) .skip))) (rR [0,1,5,6] [qM 14 6,oQ 15 (.bin .add (.t 14) (.c (.int .i64 1))),qM 6 15])))))) (.seq (rR [4] [qM 60 5,qM 4 60]) .ret))))
theorem ej(hn:vals.length<=61)(h:SP Tryz.prog true vals bs dZ [.slot 4] Q):AM.Sem Tryz.prog 155 vals bs Q:=
 oZ (keeps:=[(0,[0,1]),(1,[0,1,5]),(2,[0,1,5,6]),(3,[0,1,5,6,13]),(5,[0,1,5,6,51]),(6,[0,1,5,6]),(4,[0,1,5,6]),(7,[4]),(1000000,[8011,8029,8043,8055])]) (solo:=[]) Tryz.func155 rfl hn h
def eM:RC:=
 (.seq (rR [0,1,4] [oQ 4 (.box (.c (.agg [(.int .i64 0),(.int .i64 0),(.str ⟨⟨[]⟩⟩),(.sl .full [])])))]) (.seq (rR [0,1,4,5] [qM 8 0,qM 9 1,oQ 10 (cF 154 [(.t 8),(.t 9)]),qM 5 10]) (.seq (.seq (rR [0,1,4,5,12] [qM 11 5,oQ 12 (.bin .lss (.t 11) (.c (.int .i64 0)))]) (.cond (.t 12) (.seq (rR [4] [qM 13 0,qM 14 1,oQ 15 (cF 155 [(.t 13),(.t 14)]),oQ 16 (.build [(.int .i64 0),(.int .i64 0),(.str ⟨⟨[]⟩⟩),(.sl .full [])] [(0,1,(.c (.int .i64 1))),(1,1,(.t 15))]),oN (.store 4 (.t 4) (.t 16))]) .ret) .skip)) (.seq (.reg true [0,4,5,6] [qM 17 0,qK 18 17,qF 19 0 18,qL 20 19,qM 21 5,qI 22 4 20 21,qF 23 0 22,qL 24 23,qM 25 0,qK 26 25,qF 27 0 26,qL 28 27,qM 29 5,qI 30 4 28 29,qF 31 1 30,qL 32 31,qM 33 0,qK 34 33,qF 35 0 34,qL 36 35,qM 37 5,qI 38 4 36 37,qF 39 2 38,qL 40 39,oQ 41 (.build [(.int .i64 0),(.int .i64 0),(.str ⟨⟨[]⟩⟩),(.sl .full [])] [(0,1,(.t 24)),(1,1,(.t 32)),(2,1,(.t 40))]),oQ 6 (.box (.c (.agg [(.int .i64 0),(.int .i64 0),(.str ⟨⟨[]⟩⟩),(.sl .full [])]))),oN (.store 4 (.t 6) (.t 41))])
 (.seq (.seq (rR [0,4,5,6,7] [oQ 7 (.mov (.c (.int .i64 0)))]) (.block 0 (.loop (.seq (.seq (rR [0,4,5,6,7,52] [qM 42 7,qM 43 0,qK 44 43,qF 45 0 44,oQ 46 (.lod 1 false 1 (.t 45)),qM 47 5,qI 48 4 46 47,qF 49 3 48,qL 50 49,oQ 51 (.len false (.t 50)),oQ 52 (.bin .lss (.t 42) (.t 51))]) (.cond (.t 52) .skip (.exit 0))) (.seq (.block 1 (.mult [0,4,5,6,7] [(0,qF 55 3 6),(0,qL 56 55),(0,qM 57 0),(0,qM 58 0),(0,qK 59 58),(0,qF 60 1 59),(0,qL 61 60),(0,qM 62 0),(0,qK 63 62),(0,qF 64 0 63),(0,qL 65 64),(0,qM 66 5),(0,qI 67 4 65 66),(0,qF 68 3 67),(0,qL 69 68),(0,qM 70 7),(0,qI 71 1 69 70),(0,qL 72 71),(0,qI 73 1 61 72),(0,qL 74 73),(2,oQ 75 (cF 156 [(.t 57),(.t 74)])),(0,oQ 76 (.aG 4 [(.t 75)])),(1,oQ 77 (.eff (.mG 4) [(.t 56),(.t 76)])),(0,qF 78 3 6),(1,oN (.store 1 (.t 78) (.t 77)))])) (rR [0,4,5,6,7] [qM 53 7,oQ 54 (.bin .add (.t 53) (.c (.int .i64 1))),qM 7 54]))))))
 (.seq (rR [4] [qA 79 4 6,oN (.store 4 (.t 4) (.t 79))]) .ret))))))
theorem eP(hn:vals.length<=80)(h:SP Tryz.prog true vals bs eM [.cell 4 true 4] Q):AM.Sem Tryz.prog 156 vals bs Q:=
 oZ (keeps:=[(0,[0,1,4]),(1,[0,1,4,5]),(2,[0,1,4,5,12]),(3,[4]),(4,[0,4,5,6]),(5,[0,4,5,6,7]),(6,[0,4,5,6,7,52]),(8,[0,4,5,6,7]),(7,[0,4,5,6,7]),(9,[4]),(1000000,[77,8046]),(2000008,[0,1,2,3,4,5,6,7,8,9,10,11,12,13,14,15,16,17,18,19,20,21,22,23,24]),(3000008,[0,0,0,0,0,0,0,0,0,0,0,0,0,0,0,0,0,0,0,0,2,0,1,0,1])]) (solo:=[]) Tryz.func156 rfl hn h
def eO:RC:=
 (.seq (rR [0,1,2] [oQ 6 (.mov (.c (.bool false)))]) (.seq (.reg true [0,7,8] [qM 15 0,qK 16 15,qF 17 1 16,qL 18 17,qM 19 1,qI 20 1 18 19,qL 21 20,qM 22 0,qK 23 22,qF 24 1 23,qL 25 24,qM 26 2,qI 27 1 25 26,qL 28 27,qM 7 21,qM 8 28]) (.seq (.seq (rR [0,7,8,31] [qM 29 7,qM 30 8,oQ 31 (.bin .eql (.t 29) (.t 30))]) (.cond (.t 31) (.seq (rR [6] [oQ 6 (.mov (.c (.bool true)))]) .ret) .skip)) (.seq (rR [0,7,8,9,10] [qM 32 0,qM 33 7,oQ 34 (cF 154 [(.t 32),(.t 33)]),qM 35 0,qM 36 8,oQ 37 (cF 154 [(.t 35),(.t 36)]),qM 9 34,qM 10 37]) (.seq (.seq (rR [0,7,8,9,10,11] [oQ 11 (.mov (.c (.int .i64 0)))]) (.block 0 (.loop (.seq (.seq (rR [0,7,8,9,10,11,44] [qM 38 11,qM 39 0,qK 40 39,qF 41 1 40,qL 42 41,oQ 43 (.len false (.t 42)),oQ 44 (.bin .lss (.t 38) (.t 43))]) (.cond (.t 44) .skip (.exit 0))) (.seq (.block 1 (.seq (rR [0,7,8,9,10,11,55] [
 qM 47 0,qK 48 47,qF 49 1 48,qL 50 49,qM 51 11,qI 52 1 50 51,qL 53 52,qM 54 8,oQ 55 (.bin .eql (.t 53) (.t 54))]) (.cond (.t 55) (rR [0,7,8,9,10,11] [qM 56 0,qK 57 56,qF 58 1 57,qL 59 58,qM 60 11,qM 61 7,qI 62 1 59 60,oN (.store 1 (.t 62) (.t 61))]) .skip))) (rR [0,7,8,9,10,11] [qM 45 11,oQ 46 (.bin .add (.t 45) (.c (.int .i64 1))),qM 11 46])))))) (.seq (.seq (rR [0,9,10,68] [qM 63 9,oQ 64 (.bin .lss (.t 63) (.c (.int .i64 0))),qM 65 64,oG 66 65 false (.mov (.t 10)),oG 67 65 false (.bin .lss (.t 66) (.c (.int .i64 0))),oQ 68 (.pick (.t 65) (.c (.bool true)) (.t 67))]) (.cond (.t 68) (.seq (rR [6] [oQ 6 (.mov (.c (.bool true)))]) .ret) .skip)) (.seq (.both [0,12,13] [(0,qM 69 0),(0,qK 70 69),(0,qF 71 0 70),(0,qL 72 71),(0,qM 73 9),(0,qI 74 4 72 73),(0,qA 75 4 74),(0,qM 76 0),(0,qK 77 76),(0,qF 78 0 77),(0,oQ 79 (.lod 1 false 1 (.t 78))),(0,qM 80 10),(0,qI 81 4 79 80),(0,oQ 82 (.more (.lde true 4) [(.t 81)]))] [
 (0,oQ 12 (.box (.c (.agg [(.int .i64 0),(.int .i64 0),(.str ⟨⟨[]⟩⟩),(.sl .full [])])))),(0,oQ 13 (.box (.c (.agg [(.int .i64 0),(.int .i64 0),(.str ⟨⟨[]⟩⟩),(.sl .full [])])))),(0,oN (.stn 1 4 (.t 12) (.t 75))),(0,oN (.store 4 (.t 13) (.t 82)))] [(0,oQ 13 (.box (.c (.agg [(.int .i64 0),(.int .i64 0),(.str ⟨⟨[]⟩⟩),(.sl .full [])])))),(0,oQ 12 (.box (.c (.agg [(.int .i64 0),(.int .i64 0),(.str ⟨⟨[]⟩⟩),(.sl .full [])])))),(0,oN (.stn 1 4 (.t 12) (.t 75))),(0,oN (.store 4 (.t 13) (.t 82)))]) (.seq (.seq (rR [0,12,13,110] [qF 83 0 12,qL 84 83,qF 85 0 13,qL 86 85,oQ 87 (.bin .neq (.t 84) (.t 86)),qM 88 87,oG 89 88 false (.aT 1 (.t 12)),oG 90 88 false (.load false 1 (.t 89)),oG 91 88 false (.aT 1 (.t 13)),oG 92 88 false (.load false 1 (.t 91)),oG 93 88 false (.bin .neq (.t 90) (.t 92)),oQ 94 (.pick (.t 88) (.c (.bool true)) (.t 93)),qM 95 94,oG 96 95 false (.aT 2 (.t 12)),oG 97 95 false (.load false 1 (.t 96)),oG 98 95 false (.aT 2 (.t 13)),oG 99 95 false (.load false 1 (.t 98)),oG 100 95 false (.bin .neq (.t 97) (.t 99)),oQ 101 (.pick (.t 95) (.c (.bool true)) (.t 100)),qM 102 101,oG 103 102 false (.aT 3 (.t 12)),oG 104 102 false (.load false 1 (.t 103)),oG 105 102 false (.len false (.t 104)),oG 106 102 false (.aT 3 (.t 13)),oG 107 102 false (.load false 1 (.t 106)),oG 108 102 false (.len false (.t 107)),oG 109 102 false (.bin .neq (.t 105) (.t 108)),oQ 110 (.pick (.t 102) (.c (.bool true)) (.t 109))])
 (.cond (.t 110) (.seq (rR [6] [oQ 6 (.mov (.c (.bool false)))]) .ret) .skip)) (.seq (.seq (rR [0,12,13,14] [oQ 14 (.mov (.c (.int .i64 0)))]) (.block 2 (.loop (.seq (.seq (rR [0,12,13,14,115] [qM 111 14,qF 112 3 12,qL 113 112,oQ 114 (.len false (.t 113)),oQ 115 (.bin .lss (.t 111) (.t 114))]) (.cond (.t 115) .skip (.exit 2))) (.seq (.block 3 (.seq (.mult [0,12,13,14,130] [(0,qM 118 0),(0,qF 119 3 12),(0,qL 120 119),(0,qM 121 14),(0,qI 122 1 120 121),(0,qL 123 122),(0,qF 124 3 13),(0,qL 125 124),(0,qM 126 14),(0,qI 127 1 125 126),(0,qL 128 127),(1,oQ 129 (cF 152 [(.t 118),(.t 123),(.t 128)])),(0,oQ 130 (.un .not (.t 129)))]) (.cond (.t 130) (.seq (rR [6] [oQ 6 (.mov (.c (.bool false)))]) .ret) .skip))) (rR [0,12,13,14] [qM 116 14,oQ 117 (.bin .add (.t 116) (.c (.int .i64 1))),qM 14 117])))))) (.seq (rR [6] [oQ 6 (.mov (.c (.bool true)))])
 .ret))))))))))
theorem eQ(hn:vals.length<=131)(h:SP Tryz.prog true vals bs eO [.slot 6] Q):AM.Sem Tryz.prog 152 vals bs Q:=
 oZ (keeps:=[(0,[0,1,2]),(1,[0,7,8]),(2,[0,7,8,31]),(3,[6]),(4,[0,7,8,9,10]),(5,[0,7,8,9,10,11]),(6,[0,7,8,9,10,11,44]),(8,[0,7,8,9,10,11,55]),(9,[0,7,8,9,10,11]),(7,[0,7,8,9,10,11]),(10,[0,9,10,68]),(11,[6]),(12,[0,12,13]),(13,[0,12,13,110]),(14,[6]),(15,[0,12,13,14]),(16,[0,12,13,14,115]),(18,[0,12,13,14,130]),(19,[6]),(17,[0,12,13,14]),(20,[6]),(1000000,[9012,8079,82]),(4000012,[14,15,0,1,2,3,4,5,6,7,8,9,10,11,12,13]),(5000012,[15,16,17]),(6000012,[14,16,17]),(2000018,[0,1,2,3,4,5,6,7,8,9,10,11,12]),(3000018,[0,0,0,0,0,0,0,0,0,0,0,1,0])]) (solo:=[]) Tryz.func152 rfl hn h
def ed:RC:=
 (.seq (rR [0,3] [oQ 3 (.box (.t 1)),oQ 4 (.mov (.c (.int .i64 0)))]) (.seq (.seq (rR [0,3,10] [qF 8 0 3,qL 9 8,oQ 10 (.bin .eql (.t 9) (.c (.int .i64 1)))]) (.cond (.t 10) (.seq (rR [0,3,5] [oQ 5 (.mov (.c (.int .i64 0)))]) (.block 0 (.loop (.seq (.seq (rR [0,3,5,17] [qM 11 5,qM 12 0,qK 13 12,qF 14 0 13,oQ 15 (.lod 1 false 1 (.t 14)),oQ 16 (.len false (.t 15)),oQ 17 (.bin .lss (.t 11) (.t 16))]) (.cond (.t 17) .skip (.exit 0))) (.seq (.block 1 (.seq (.reg true [0,3,5,41] [oQ 20 (.take 0),qK 21 20,qF 22 0 21,qL 23 22,oQ 24 (.take 5),qI 25 4 23 24,qF 26 0 25,qL 27 26,oQ 28 (.bin .eql (.t 27) (.c (.int .i64 1))),oQ 29 (.take 28),oG 30 29 true (.take 0),oG 31 29 true (.iR (.t 30)),oG 32 29 true (.aT 0 (.t 31)),oG 33 29 true (.load false 1 (.t 32)),oG 34 29 true (.take 5),oG 35 29 true (.idx 4 (.t 33) (.t 34)),oG 36 29 true (.aT 1 (.t 35)),oG 37 29 true (.load false 1 (.t 36)),oG 38 29 true (.aT 1 (.t 3)),oG 39 29 true (.load false 1 (.t 38)),oG 40 29 true (.bin .eql (.t 37) (.t 39)),oQ 41 (.pick (.t 29) (.t 40) (.c (.bool false)))])
 (.cond (.t 41) (.seq (rR [4] [qM 42 5,qM 4 42]) .ret) .skip))) (rR [0,3,5] [qM 18 5,oQ 19 (.bin .add (.t 18) (.c (.int .i64 1))),qM 5 19])))))) .skip)) (.seq (rR [0,3,6] [qF 43 0 3,qL 44 43,qF 45 1 3,qL 46 45,qF 47 2 3,qL 48 47,oQ 49 (.build [(.int .i64 0),(.int .i64 0),(.str ⟨⟨[]⟩⟩),(.sl .full [])] [(0,1,(.t 44)),(1,1,(.t 46)),(2,1,(.t 48))]),oQ 6 (.box (.c (.agg [(.int .i64 0),(.int .i64 0),(.str ⟨⟨[]⟩⟩),(.sl .full [])]))),oN (.store 4 (.t 6) (.t 49))]) (.seq (.seq (rR [0,3,6,7] [oQ 7 (.mov (.c (.int .i64 0)))]) (.block 2 (.loop (.seq (.seq (rR [0,3,6,7,54] [qM 50 7,qF 51 3 3,qL 52 51,oQ 53 (.len false (.t 52)),oQ 54 (.bin .lss (.t 50) (.t 53))]) (.cond (.t 54) .skip (.exit 2))) (.seq (.block 3 (.mult [0,3,6,7] [(0,qF 57 3 6),(0,qL 58 57),(0,qM 59 0),(0,qF 60 3 3),(0,qL 61 60),(0,qM 62 7),(0,qI 63 4 61 62),(0,qA 64 4 63),(2,oQ 65 (cF 151 [(.t 59),(.t 64)])),(0,oQ 66 (.aG 1 [(.t 65)])),(1,oQ 67 (.eff (.mG 1) [(.t 58),(.t 66)])),(0,qF 68 3 6),(1,oN (.store 1 (.t 68) (.t 67)))]))
 (rR [0,3,6,7] [qM 55 7,oQ 56 (.bin .add (.t 55) (.c (.int .i64 1))),qM 7 56])))))) (.seq (.mult [0] [(0,qM 69 0),(0,qM 70 0),(0,qK 71 70),(0,qF 72 0 71),(0,qA 74 4 6),(0,oQ 75 (.aG 4 [(.t 74)])),(2,qL 73 72),(0,oQ 76 (.append 4 (.t 73) (.t 75))),(0,qK 77 69),(0,qF 78 0 77),(1,oN (.store 1 (.t 78) (.t 76)))]) (.seq (.mult [0] [(0,qM 79 0),(0,qM 80 0),(0,qK 81 80),(0,qF 82 1 81),(0,qL 83 82),(0,qM 84 0),(0,qK 85 84),(0,qF 86 0 85),(0,qL 87 86),(0,oQ 88 (.len false (.t 87))),(0,oQ 89 (.bin .sub (.t 88) (.c (.int .i64 1)))),(0,oQ 90 (.aG 1 [(.t 89)])),(2,oQ 91 (.eff (.mG 1) [(.t 83),(.t 90)])),(0,qK 92 79),(0,qF 93 1 92),(1,oN (.store 1 (.t 93) (.t 91)))]) (.seq (rR [4] [qM 94 0,qK 95 94,qF 96 0 95,oQ 97 (.lod 1 false 1 (.t 96)),oQ 98 (.len false (.t 97)),oQ 99 (.bin .sub (.t 98) (.c (.int .i64 1))),qM 4 99]) .ret)))))))
theorem en(hn:vals.length<=100)(h:SP Tryz.prog true vals bs ed [.slot 4] Q):AM.Sem Tryz.prog 151 vals bs Q:=
 oZ (keeps:=[(0,[0,3]),(1,[0,3,10]),(2,[0,3,5]),(3,[0,3,5,17]),(5,[0,3,5,41]),(6,[4]),(4,[0,3,5]),(7,[0,3,6]),(8,[0,3,6,7]),(9,[0,3,6,7,54]),(11,[0,3,6,7]),(10,[0,3,6,7]),(12,[0]),(13,[0]),(14,[4]),(1000000,[67,91,8015,8097]),(2000011,[0,1,2,3,4,5,6,7,8,9,10,11,12]),(3000011,[0,0,0,0,0,0,0,0,2,0,1,0,1]),(2000012,[0,1,2,3,5,6,4,7,8,9,10]),(3000012,[0,0,0,0,2,0,0,0,0,0,1]),(2000013,[0,1,2,3,4,5,6,7,8,9,10,11,12,13,14,15]),(3000013,[0,0,0,0,0,0,0,0,0,0,0,0,2,0,0,1])]) (solo:=[]) Tryz.func151 rfl hn h
def du:RC:=
 (.seq (rR [0] [oQ 2 (.mov (.c (.sl .full []))),oQ 3 (.mov (.c (.bool false)))]) (.seq (rR [0,4] [qM 15 0,qK 16 15,qF 17 0 16,oQ 18 (.lod 1 false 1 (.t 17)),oQ 19 (.len false (.t 18)),oQ 20 (.eff (.mkB 2 (.agg [(.int .i64 0),(.int .i64 0)])) [(.t 19),(.t 19)]),qM 4 20]) (.seq (rR [0,4,5] [oQ 5 (.mov (.c (.int .i64 0)))]) (.seq (.seq (rR [0,4,5,6] [oQ 6 (.mov (.c (.int .i64 0)))]) (.block 0 (.loop (.seq (.seq (rR [0,4,5,6,27] [qM 21 6,qM 22 0,qK 23 22,qF 24 0 23,oQ 25 (.lod 1 false 1 (.t 24)),oQ 26 (.len false (.t 25)),oQ 27 (.bin .lss (.t 21) (.t 26))]) (.cond (.t 27) .skip (.exit 0))) (.seq (.block 1 (.seq (rR [0,4,5,6,38] [qM 30 0,qK 31 30,qF 32 1 31,qL 33 32,qM 34 6,qI 35 1 33 34,qL 36 35,qM 37 6,oQ 38 (.bin .eql (.t 36) (.t 37))]) (.cond (.t 38) (rR [0,4,5,6] [qM 39 5,oQ 40 (.bin .add (.t 39) (.c (.int .i64 1))),qM 5 40]) .skip))) (rR [0,4,5,6] [
 qM 28 6,oQ 29 (.bin .add (.t 28) (.c (.int .i64 1))),qM 6 29])))))) (.seq (.block 2 (.loop (.seq (.seq (rR [0,4,5,42] [qM 41 5,oQ 42 (.bin .gtr (.t 41) (.c (.int .i64 0)))]) (.cond (.t 42) .skip (.exit 2))) (.block 3 (.seq (rR [0,4,5,7] [qM 43 5,qM 7 43]) (.seq (.seq (rR [0,4,5,7,8] [oQ 8 (.mov (.c (.int .i64 0)))]) (.block 4 (.loop (.seq (.seq (rR [0,4,5,7,8,50] [qM 44 8,qM 45 0,qK 46 45,qF 47 0 46,oQ 48 (.lod 1 false 1 (.t 47)),oQ 49 (.len false (.t 48)),oQ 50 (.bin .lss (.t 44) (.t 49))]) (.cond (.t 50) .skip (.exit 4))) (.seq (.block 5 (.seq (rR [0,4,5,7,8,9] [qM 53 0,qK 54 53,qF 55 1 54,qL 56 55,qM 57 8,qI 58 1 56 57,qL 59 58,qM 9 59]) (.seq (.seq (rR [0,4,5,7,8,9,65] [qM 60 4,qM 61 9,qI 62 2 60 61,qF 63 0 62,qL 64 63,oQ 65 (.bin .gtr (.t 64) (.c (.int .i64 0)))]) (.cond (.t 65) (.exit 5) .skip)) (.seq (rR [0,4,5,7,8,9,10] [
 qM 66 0,qM 67 9,oQ 68 (cF 154 [(.t 66),(.t 67)]),qM 10 68]) (.seq (rR [0,4,5,7,8,9,10,11] [oQ 69 (.build [(.int .i64 0),(.int .i64 0)] [(0,1,(.c (.int .i64 1))),(1,1,(.c (.int .i64 1)))]),oQ 11 (.box (.c (.agg [(.int .i64 0),(.int .i64 0)]))),oN (.store 2 (.t 11) (.t 69))]) (.seq (rR [0,4,5,7,8,9,10,11,12] [oQ 12 (.mov (.c (.bool true)))]) (.seq (.seq (rR [0,4,5,7,8,9,10,11,12,13] [oQ 13 (.mov (.c (.int .i64 0)))]) (.block 6 (.loop (.seq (.seq (rR [0,4,5,7,8,9,10,11,12,13,84] [qM 70 10,oQ 71 (.bin .geq (.t 70) (.c (.int .i64 0))),qM 72 71,oG 73 72 true (.mov (.t 13)),oG 74 72 true (.mov (.t 0)),oG 75 72 true (.iR (.t 74)),oG 76 72 true (.aT 0 (.t 75)),oG 77 72 true (.lod 1 false 1 (.t 76)),oG 78 72 true (.mov (.t 10)),oG 79 72 true (.idx 4 (.t 77) (.t 78)),oG 80 72 true (.aT 3 (.t 79)),oG 81 72 true (.load false 1 (.t 80)),oG 82 72 true (.len false (.t 81)),oG 83 72 true (.bin .lss (.t 73) (.t 82)),oQ 84 (.pick (.t 72) (.t 83) (.c (.bool false)))])
 (.cond (.t 84) .skip (.exit 6))) (.seq (.block 7 (.seq (.reg true [0,4,5,7,8,9,10,11,12,13,14] [qM 87 4,qM 88 0,qK 89 88,qF 90 1 89,qL 91 90,qM 92 0,qK 93 92,qF 94 0 93,qL 95 94,qM 96 10,qI 97 4 95 96,qF 98 3 97,qL 99 98,qM 100 13,qI 101 1 99 100,qL 102 101,qI 103 1 91 102,qL 104 103,qI 105 2 87 104,qA 106 2 105,oQ 14 (.box (.c (.agg [(.int .i64 0),(.int .i64 0)]))),oN (.store 2 (.t 14) (.t 106))]) (.seq (rR [0,4,5,7,8,9,10,11,12,13,14] [qM 107 12,qM 108 107,oG 109 108 true (.aT 0 (.t 14)),oG 110 108 true (.load false 1 (.t 109)),oG 111 108 true (.bin .gtr (.t 110) (.c (.int .i64 0))),oQ 112 (.pick (.t 108) (.t 111) (.c (.bool false))),qM 12 112]) (.seq (rR [0,4,5,7,8,9,10,11,12,13,14] [qF 113 0 11,qL 114 113,qF 115 0 14,qL 116 115,oQ 117 (.bin .add (.t 114) (.t 116)),oQ 118 (.c6 false (.t 117) (.c (.int .i64 201))),qF 119 0 11,oN (.store 1 (.t 119) (.t 118))])
 (rR [0,4,5,7,8,9,10,11,12,13] [qF 120 1 11,qL 121 120,qF 122 1 14,qL 123 122,oQ 124 (.bin .add (.t 123) (.c (.int .i64 1))),oQ 125 (.c6 true (.t 121) (.t 124)),oQ 126 (.c6 false (.t 125) (.c (.int .i64 21))),qF 127 1 11,oN (.store 1 (.t 127) (.t 126))]))))) (rR [0,4,5,7,8,9,10,11,12,13] [qM 85 13,oQ 86 (.bin .add (.t 85) (.c (.int .i64 1))),qM 13 86])))))) (.seq (rR [0,4,5,7,8,9,11,128] [qM 128 12]) (.cond (.t 128) (.seq (rR [0,4,5,7,8] [qM 129 4,qM 130 9,qA 131 2 11,qI 132 2 129 130,oN (.store 2 (.t 132) (.t 131))]) (rR [0,4,5,7,8] [qM 133 5,oQ 134 (.bin .sub (.t 133) (.c (.int .i64 1))),qM 5 134])) .skip))))))))) (rR [0,4,5,7,8] [qM 51 8,oQ 52 (.bin .add (.t 51) (.c (.int .i64 1))),qM 8 52])))))) (.seq (rR [0,4,5,137] [qM 135 5,qM 136 7,oQ 137 (.bin .eql (.t 135) (.t 136))]) (.cond (.t 137) (.seq (rR [2,3] [oQ 2 (.mov (.c (.sl .full []))),oQ 3 (.mov (.c (.bool false)))])
 .ret) .skip)))))))) (.seq (rR [2,3] [qM 138 4,qM 2 138,oQ 3 (.mov (.c (.bool true)))]) .ret))))))
theorem dv(hn:vals.length<=139)(h:SP Tryz.prog true vals bs du [.slot 2,.slot 3] Q):AM.Sem Tryz.prog 153 vals bs Q:=
 oZ (keeps:=[(0,[0]),(1,[0,4]),(2,[0,4,5]),(3,[0,4,5,6]),(4,[0,4,5,6,27]),(6,[0,4,5,6,38]),(7,[0,4,5,6]),(5,[0,4,5,6]),(8,[0,4,5,42]),(9,[0,4,5,7]),(10,[0,4,5,7,8]),(11,[0,4,5,7,8,50]),(13,[0,4,5,7,8,9]),(14,[0,4,5,7,8,9,65]),(15,[0,4,5,7,8,9,10]),(16,[0,4,5,7,8,9,10,11]),(17,[0,4,5,7,8,9,10,11,12]),(18,[0,4,5,7,8,9,10,11,12,13]),(19,[0,4,5,7,8,9,10,11,12,13,84]),(21,[0,4,5,7,8,9,10,11,12,13,14]),(22,[0,4,5,7,8,9,10,11,12,13,14]),(23,[0,4,5,7,8,9,10,11,12,13,14]),(24,[0,4,5,7,8,9,10,11,12,13]),(20,[0,4,5,7,8,9,10,11,12,13]),(25,[0,4,5,7,8,9,11,128]),(26,[0,4,5,7,8]),(27,[0,4,5,7,8]),(12,[0,4,5,7,8]),(28,[0,4,5,137]),(29,[2,3]),(30,[2,3]),(1000000,[20,8018,8025,8048,8077])]) (solo:=[]) Tryz.func153 rfl hn h
def jo:RC:=
 (.seq (rR [0,1] [oQ 4 (.mov (.c (.sl .full []))),oQ 5 (.mov (.c (.int .i64 0)))]) (.seq (rR [0,1,6] [oQ 18 (.build [(.sl .full []),(.sl .full [])] []),oQ 19 (.box (.t 18)),qM 6 19]) (.seq (.seq (rR [0,1,6,7] [oQ 7 (.mov (.c (.int .i64 0)))]) (.block 0 (.loop (.seq (.seq (rR [0,1,6,7,23] [qM 20 7,qM 21 0,oQ 22 (.len false (.t 21)),oQ 23 (.bin .lss (.t 20) (.t 22))]) (.cond (.t 23) .skip (.exit 0))) (.seq (.block 1 (.seq (rR [0,1,6,7,8] [qM 26 6,qM 27 0,qM 28 7,qI 29 4 27 28,qA 30 4 29,oQ 31 (cF 151 [(.t 26),(.t 30)]),qM 8 31]) (.seq (rR [0,1,6,7,8,9] [qM 32 6,qM 33 1,qM 34 7,qI 35 4 33 34,qA 36 4 35,oQ 37 (cF 151 [(.t 32),(.t 36)]),qM 9 37]) (.seq (rR [0,1,6,7,42] [qM 38 6,qM 39 8,qM 40 9,oQ 41 (cF 152 [(.t 38),(.t 39),(.t 40)]),oQ 42 (.un .not (.t 41))]) (.cond (.t 42) (.seq (rR [4,5] [oQ 4 (.mov (.c (.sl .full []))),oQ 5 (.mov (.c (.int .i64 13)))])
 .ret) .skip))))) (rR [0,1,6,7] [qM 24 7,oQ 25 (.bin .add (.t 24) (.c (.int .i64 1))),qM 7 25])))))) (.seq (rR [6,10,11] [qM 44 6,oQ 45 (cF 153 [(.t 44)]),qM 43 45,oQ 46 (.ext 0 (.t 43)),oQ 47 (.ext 1 (.t 43)),qM 10 46,qM 11 47]) (.seq (.seq (rR [6,10,49] [qM 48 11,oQ 49 (.un .not (.t 48))]) (.cond (.t 49) (.seq (rR [4,5] [oQ 4 (.mov (.c (.sl .full []))),oQ 5 (.mov (.c (.int .i64 13)))]) .ret) .skip)) (.seq (rR [6,10,12] [oQ 12 (.mov (.c (.sl .full [])))]) (.seq (.seq (rR [6,10,12,13] [oQ 13 (.mov (.c (.int .i64 0)))]) (.block 2 (.loop (.seq (.seq (rR [6,10,12,13,56] [qM 50 13,qM 51 6,qK 52 51,qF 53 0 52,oQ 54 (.lod 1 false 1 (.t 53)),oQ 55 (.len false (.t 54)),oQ 56 (.bin .lss (.t 50) (.t 55))]) (.cond (.t 56) .skip (.exit 2))) (.seq (.block 3 (.seq (rR [6,10,12,13,14] [qM 59 6,qK 60 59,qF 61 1 60,qL 62 61,qM 63 13,qI 64 1 62 63,qL 65 64,qM 14 65])
 (.seq (.seq (.mult [6,10,12,13,14,94] [(0,qM 66 6),(0,qK 67 66),(0,qF 68 0 67),(0,qL 69 68),(0,qM 70 13),(0,qI 71 4 69 70),(0,qF 72 0 71),(0,qL 73 72),(0,oQ 74 (.bin .neq (.t 73) (.c (.int .i64 1)))),(0,qM 75 74),(0,oG 76 75 false (.mov (.t 6))),(0,oG 77 75 false (.mov (.t 14))),(1,oG 78 75 false (cF 154 [(.t 76),(.t 77)])),(0,oG 79 75 false (.bin .lss (.t 78) (.c (.int .i64 0)))),(0,oG 80 75 false (.mov (.t 79))),(0,oG 81 80 true (.mov (.t 6))),(0,oG 82 80 true (.mov (.t 14))),(0,oG 84 80 true (.mov (.t 6))),(0,oG 85 80 true (.iR (.t 84))),(0,oG 86 80 true (.aT 0 (.t 85))),(0,oG 87 80 true (.load false 1 (.t 86))),(0,oG 88 80 true (.mov (.t 13))),(0,oG 89 80 true (.idx 4 (.t 87) (.t 88))),(0,oG 90 80 true (.aT 1 (.t 89))),(0,oG 91 80 true (.load false 1 (.t 90))),(2,oG 83 80 true (cF 155 [(.t 81),(.t 82)])),(0,oG 92 80 true (.bin .eql (.t 83) (.t 91))),(0,oG 93 75 false (.pick (.t 80) (.t 92) (.c (.bool false)))),(0,oQ 94 (.pick (.t 75) (.c (.bool true)) (.t 93)))])
 (.cond (.t 94) (.exit 3) .skip)) (.seq (.seq (rR [6,10,12,13,14,108] [qM 95 10,qM 96 14,qI 97 2 95 96,qF 98 0 97,qL 99 98,oQ 100 (.bin .gtr (.t 99) (.c (.int .i64 200))),qM 101 100,oG 102 101 false (.mov (.t 10)),oG 103 101 false (.mov (.t 14)),oG 104 101 false (.idx 2 (.t 102) (.t 103)),oG 105 101 false (.aT 1 (.t 104)),oG 106 101 false (.load false 1 (.t 105)),oG 107 101 false (.bin .gtr (.t 106) (.c (.int .i64 20))),oQ 108 (.pick (.t 101) (.c (.bool true)) (.t 107))]) (.cond (.t 108) (.seq (rR [4,5] [oQ 4 (.mov (.c (.sl .full []))),oQ 5 (.mov (.c (.int .i64 6)))]) .ret) .skip)) (.seq (.both [6,10,12,13,15] [(0,qM 109 6),(0,qK 110 109),(0,qF 111 0 110),(0,qL 112 111),(0,qM 113 13),(0,qI 114 4 112 113),(0,qF 115 1 114),(0,qL 116 115),(0,qM 117 6),(0,qM 118 14)] [(0,oQ 15 (.box (.c (.agg [(.int .i64 0),(.int .i64 0),(.int .i64 0),(.str ⟨⟨[]⟩⟩),(.sl .full [])])))),(2,oQ 119 (cF 156 [(.t 117),(.t 118)])),(0,oQ 120 (.build [(.int .i64 0),(.int .i64 0),(.int .i64 0),(.str ⟨⟨[]⟩⟩),(.sl .full [])] [(0,1,(.t 116)),(1,4,(.t 119))])),(0,oN (.stn 1 5 (.t 15) (.t 120)))] [
 (2,oQ 119 (cF 156 [(.t 117),(.t 118)])),(0,oQ 15 (.box (.c (.agg [(.int .i64 0),(.int .i64 0),(.int .i64 0),(.str ⟨⟨[]⟩⟩),(.sl .full [])])))),(0,oQ 120 (.build [(.int .i64 0),(.int .i64 0),(.int .i64 0),(.str ⟨⟨[]⟩⟩),(.sl .full [])] [(0,1,(.t 116)),(1,4,(.t 119))])),(0,oN (.stn 1 5 (.t 15) (.t 120)))]) (.seq (rR [6,10,12,13,15,16] [oQ 16 (.mov (.c (.sl .full [])))]) (.seq (rR [6,10,12,13,15,16,17] [oQ 17 (.mov (.c (.int .i64 0)))]) (.seq (.block 4 (.loop (.seq (.seq (.reg true [6,10,12,13,15,16,17,134] [oQ 121 (.take 17),oQ 122 (.take 12),oQ 123 (.len false (.t 122)),oQ 124 (.bin .lss (.t 121) (.t 123)),oQ 125 (.take 124),oG 126 125 true (.take 12),oG 127 125 true (.take 17),oG 128 125 true (.idx 5 (.t 126) (.t 127)),oG 129 125 true (.aT 0 (.t 128)),oG 130 125 true (.load false 1 (.t 129)),oG 131 125 true (.aT 0 (.t 15)),oG 132 125 true (.load false 1 (.t 131)),oG 133 125 true (.bin .lss (.t 130) (.t 132)),oQ 134 (.pick (.t 125) (.t 133) (.c (.bool false)))])
 (.cond (.t 134) .skip (.exit 4))) (.block 5 (rR [6,10,12,13,15,16,17] [qM 135 17,oQ 136 (.bin .add (.t 135) (.c (.int .i64 1))),qM 17 136]))))) (.seq (rR [6,10,12,13,15,16,17] [qM 137 16,qM 138 12,qM 139 17,oQ 140 (.slc 5 (.t 138) none (some (.t 139)) none),oQ 141 (.append 5 (.t 137) (.t 140)),qM 16 141]) (.seq (rR [6,10,12,13,16,17] [qM 142 16,qA 143 5 15,oQ 144 (.aG 5 [(.t 143)]),oQ 145 (.append 5 (.t 142) (.t 144)),qM 16 145]) (rR [6,10,12,13] [qM 146 16,qM 147 12,qM 148 17,oQ 149 (.slc 5 (.t 147) (some (.t 148)) none none),oQ 150 (.append 5 (.t 146) (.t 149)),qM 12 150]))))))))))) (rR [6,10,12,13] [qM 57 13,oQ 58 (.bin .add (.t 57) (.c (.int .i64 1))),qM 13 58])))))) (.seq (rR [4,5] [qM 151 12,qM 4 151,oQ 5 (.mov (.c (.int .i64 0)))]) .ret))))))))
theorem jG(hn:vals.length<=152)(h:SP Tryz.prog true vals bs jo [.slot 4,.slot 5] Q):AM.Sem Tryz.prog 116 vals bs Q:=
 oZ (keeps:=[(0,[0,1]),(1,[0,1,6]),(2,[0,1,6,7]),(3,[0,1,6,7,23]),(5,[0,1,6,7,8]),(6,[0,1,6,7,8,9]),(7,[0,1,6,7,42]),(8,[4,5]),(4,[0,1,6,7]),(9,[6,10,11]),(10,[6,10,49]),(11,[4,5]),(12,[6,10,12]),(13,[6,10,12,13]),(14,[6,10,12,13,56]),(16,[6,10,12,13,14]),(17,[6,10,12,13,14,94]),(18,[6,10,12,13,14,108]),(19,[4,5]),(20,[6,10,12,13,15]),(21,[6,10,12,13,15,16]),(22,[6,10,12,13,15,16,17]),(23,[6,10,12,13,15,16,17,134]),(24,[6,10,12,13,15,16,17]),(25,[6,10,12,13,15,16,17]),(26,[6,10,12,13,16,17]),(27,[6,10,12,13]),(15,[6,10,12,13]),(28,[4,5]),(1000000,[8054,9015]),(2000017,[0,1,2,3,4,5,6,7,8,9,10,11,12,13,14,15,16,18,19,20,21,22,23,24,25,17,26,27,28]),(3000017,[0,0,0,0,0,0,0,0,0,0,0,0,1,0,0,0,0,2,0,0,0,0,0,0,0,0,0,0,0]),(4000020,[12,10,0,1,2,3,4,5,6,7,8,9]),(5000020,[10,11,13]),(6000020,[12,11,13]),(3000020,[0,0,0,0,0,0,0,0,0,0,2,0,0,0])]) (solo:=[]) Tryz.func116 rfl hn h
def lB:RC:=
 (.seq (rR [0,1] [oQ 4 (.mov (.c (.sl .full []))),oQ 5 (.mov (.c (.int .i64 0)))]) (.seq (.seq (rR [0,1,6] [oQ 6 (.mov (.c (.int .i64 0)))]) (.block 0 (.loop (.seq (.seq (rR [0,1,6,11] [qM 8 6,qM 9 0,oQ 10 (.len false (.t 9)),oQ 11 (.bin .lss (.t 8) (.t 10))]) (.cond (.t 11) .skip (.exit 0))) (.seq (.block 1 (.seq (rR [0,1,6,19] [qM 14 0,qM 15 6,qI 16 4 14 15,qA 17 4 16,oQ 18 (cF 71 [(.t 17)]),oQ 19 (.un .not (.t 18))]) (.cond (.t 19) (.seq (rR [4,5] [oQ 4 (.mov (.c (.sl .full []))),oQ 5 (.mov (.c (.int .i64 2)))]) .ret) .skip))) (rR [0,1,6] [qM 12 6,oQ 13 (.bin .add (.t 12) (.c (.int .i64 1))),qM 6 13])))))) (.seq (.seq (rR [0,1,7] [oQ 7 (.mov (.c (.int .i64 0)))]) (.block 2 (.loop (.seq (.seq (rR [0,1,7,23] [qM 20 7,qM 21 1,oQ 22 (.len false (.t 21)),oQ 23 (.bin .lss (.t 20) (.t 22))]) (.cond (.t 23) .skip (.exit 2))) (.seq (.block 3 (.seq (rR [0,1,7,31] [
 qM 26 1,qM 27 7,qI 28 4 26 27,qA 29 4 28,oQ 30 (cF 71 [(.t 29)]),oQ 31 (.un .not (.t 30))]) (.cond (.t 31) (.seq (rR [4,5] [oQ 4 (.mov (.c (.sl .full []))),oQ 5 (.mov (.c (.int .i64 2)))]) .ret) .skip))) (rR [0,1,7] [qM 24 7,oQ 25 (.bin .add (.t 24) (.c (.int .i64 1))),qM 7 25])))))) (.seq (.seq (rR [0,1,36] [qM 32 0,oQ 33 (.len false (.t 32)),qM 34 1,oQ 35 (.len false (.t 34)),oQ 36 (.bin .neq (.t 33) (.t 35))]) (.cond (.t 36) (.seq (rR [4,5] [oQ 4 (.mov (.c (.sl .full []))),oQ 5 (.mov (.c (.int .i64 9)))]) .ret) .skip)) (.seq (rR [4,5] [qM 37 0,qM 38 1,oQ 39 (cF 116 [(.t 37),(.t 38)]),oQ 40 (.ext 0 (.t 39)),oQ 41 (.ext 1 (.t 39)),qM 4 40,qM 5 41]) .ret)))))
theorem lK(hn:vals.length<=42)(h:SP Tryz.prog true vals bs lB [.slot 4,.slot 5] Q):AM.Sem Tryz.prog 83 vals bs Q:=
 oZ (keeps:=[(0,[0,1]),(1,[0,1,6]),(2,[0,1,6,11]),(4,[0,1,6,19]),(5,[4,5]),(3,[0,1,6]),(6,[0,1,7]),(7,[0,1,7,23]),(9,[0,1,7,31]),(10,[4,5]),(8,[0,1,7]),(11,[0,1,36]),(12,[4,5]),(13,[4,5])]) (solo:=[]) Tryz.func83 rfl hn h
def Ms:RC:=
 (.seq (rR [2,3] [oQ 2 (.box (.t 0)),oQ 3 (.box (.t 1)),oQ 4 (.mov (.c (.sl .full []))),oQ 5 (.mov (.c (.int .i64 0)))]) (.seq (rR [4,5] [qA 6 4 2,oQ 7 (.aG 4 [(.t 6)]),qA 8 4 3,oQ 9 (.aG 4 [(.t 8)]),oQ 10 (cF 83 [(.t 7),(.t 9)]),oQ 11 (.ext 0 (.t 10)),oQ 12 (.ext 1 (.t 10)),qM 4 11,qM 5 12]) .ret))
theorem Mv(hn:vals.length<=13)(h:SP Tryz.prog true vals bs Ms [.slot 4,.slot 5] Q):AM.Sem Tryz.prog 102 vals bs Q:=
 oZ (keeps:=[(0,[2,3]),(1,[4,5])]) (solo:=[]) Tryz.func102 rfl hn h
def Mb:RC:=
 (.seq (rR [2,3] [oQ 2 (.box (.t 0)),oQ 3 (.box (.t 1)),oQ 4 (.mov (.c (.bool false)))]) (.seq (rR [6] [qA 8 4 2,qA 9 4 3,oQ 10 (cF 102 [(.t 8),(.t 9)]),qM 7 10,oQ 11 (.ext 0 (.t 7)),oQ 12 (.ext 1 (.t 7)),qM 5 11,qM 6 12]) (.seq (rR [4] [qM 13 6,oQ 14 (.bin .eql (.t 13) (.c (.int .i64 0))),qM 15 14,oG 16 15 false (.mov (.t 6)),oG 17 15 false (.bin .eql (.t 16) (.c (.int .i64 6))),oQ 18 (.pick (.t 15) (.c (.bool true)) (.t 17)),qM 4 18]) .ret)))
theorem Mf(hn:vals.length<=19)(h:SP Tryz.prog true vals bs Mb [.slot 4] Q):AM.Sem Tryz.prog 66 vals bs Q:=
 oZ (keeps:=[(0,[2,3]),(1,[6]),(2,[4])]) (solo:=[]) Tryz.func66 rfl hn h
end Go.CK
