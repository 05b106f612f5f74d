/-
  By an AI agent.
-/
import Derived.Test.YtcjfkbdbcgmomaaGreatDoorQai
set_option linter.unusedSimpArgs false
set_option linter.unusedVariables false
namespace Go.AM
open Go.CK Go.RowKit
def Opd.cn:Opd->List Nat
 |.t k=>[k]
 |.c _=>[]
def slotsOf:List Opd->List Nat
 |[]=>[]
 |o::os=>o.cn++slotsOf os
def RX.bp:RX->List Opd
 |.mov o|.qu o|.aL _ o|.fld _ _ _ o|.ext _ o|.len _ o|.un _ o|.conv _ o|.load _ _ o|.lod _ _ _ o|.box o=>[o]
 |.pick c a b=>[c,a,b]
 |.idx _ x i|.pG x i|.bin _ x i|.mk _ _ x i|.store _ x i|.stn _ _ x i|.append _ x i=>[x,i]
 |.build _ ps=>ps.map λp=>p.2.2
 |.aM _ rs=>rs
 |.pD _ xs ys=>xs++ys
 |.call f args|.dM f args=>f::args
 |.more _ args=>args
 |.eff _ args=>args
 |.take t=>[.t t]
 |.iX _ x y|.Bh _ _ x y|.mi _ _ _ x y=>[x,y]
 |.slc _ x lo d mx=>x::(lo.toList++(d.toList++mx.toList))
 |.HE x lo d=>x::(lo.toList++d.toList)
def RX.ep:RX->Bool
 |.box _|.store .. |.stn .. |.append .. |.take _|.eff .. =>false
 |_=>true
def RX.looks:RX->Bool
 |.load .. |.lod .. |.box _|.store .. |.stn .. |.eff .. =>true
 |_=>false
def RX.kK:RX->Bool
 |.box _|.store .. |.stn .. |.eff .. =>false
 |_=>true
def E3:RX->RX->Bool
 |.lod b _ _ _,.stn c _ _ _=>Nat.ble b c
 |_,_=>false
def RX.vk(v:AV):RX->Prop
 |.lod b _ _ _=>J7 b v=true
 |_=>True
def RX.nL(k:Nat):RX->Bool
 |.append _ (.t j) _|.take j=>Nat.beq j k
 |_=>false
def RX.Kl:RX->Bool
 |.box _=>true
 |_=>false
def ROp.reads(r:ROp):List Nat:=(match r.guard with|some (g,_)=>[g]|none=>[])++slotsOf r.rx.bp
def ROp.writes(r:ROp):List Nat:=(match r.dst with|some d=>[d]|none=>[])++(match r.rx with|.append _ (.t k) _|.take k=>[k]|_=>[])
def apart:List Nat->List Nat->Bool
 |[],_=>true
 |x::xs,ys=>!(ys.contains x)&&apart xs ys
def indep(x y:ROp):Bool:=
 (apart x.writes (y.reads++y.writes)&&apart y.writes x.reads)&&
 ((x.rx.kK&&(y.rx.kK||(y.rx.Kl||(!x.rx.looks||E3 x.rx y.rx))))||(y.rx.kK&&!y.rx.looks))
theorem apart_spec:∀{xs ys:List Nat},apart xs ys=true->∀k,k∈xs->k∉ys
 |[],_,_,k,hk=>by cases hk
 |x::xs,ys,h,k,hk=>by
  simp only[apart,zD,zb,List.contains_eq_mem,decide_eq_false_iff_not] at h;rcases zI.1 hk with rfl|hk
  .exact h.1
  .exact apart_spec h.2 k hk
theorem eg:∀{os:List Opd} {o:Opd} {k:Nat},o∈os->k∈o.cn->k∈slotsOf os
 |_::os,o,k,h,hk=>by
  simp only[slotsOf,zY];rcases zI.1 h with rfl|h
  .exact .inl hk
  .exact .inr (eg h hk)
theorem dw{ev a:Opd->AV}:∀{os:List Opd},(∀o∈os,ev o=a o)->evs ev os=evs a os
 |[],_=>rfl
 |o::os,h=>by rw[evs,evs,h o (by simp),dw λx b=>h x (by simp[b])]
theorem sW{ev a:Opd->AV}:∀{ps:List (Nat×Nat×Opd)} {cs:List AV} {K:List AV->Prop},(∀o∈ps.map (λp=>p.2.2),ev o=a o)->mJ ev ps cs K->mJ a ps cs K
 |[],_,_,_,h=>h
 |(off,sz,o)::ps,cs,K,he,h=>by
  have e:=he o (by simp)
  simp only[mJ] at h|-;rw[<-e];obtain⟨d,c⟩:=af.1 h;exact af.2 ⟨d,sW (λx b=>he x (by simp at b|-;exact .inr b)) c⟩
theorem o6{ev a:Opd->AV}{sz:Nat}:∀{os:List Opd} {K:List AV->Prop},(∀o∈os,ev o=a o)->dR ev sz os K->dR a sz os K
 |[],_,_,h=>h
 |o::os,K,he,h=>by
  have e:=he o (by simp)
  simp only[dR] at h|-;rw[<-e];obtain⟨d,c⟩:=af.1 h;exact af.2 ⟨d,o6 (λx b=>he x (by simp[b])) c⟩
theorem JO{rx:RX}{ev d:Opd->AV}{rd m:AV->Option (List AV)}(he:∀o∈rx.bp,ev o=d o)(hr:rx.looks=true->∀o∈rx.bp,rx.vk (ev o)->∀cs,rd (ev o)=some cs->m (ev o)=some cs){K:AV->Prop}(h:rx.pK ev rd K):rx.pK d m K:=by
 cases rx<;>simp only[RX.bp,zI,yU,or_false,forall_eq_or_imp,forall_eq] at he<;>simp only[RX.pK] at h|-
 case mov o=>rw[<-he];exact h
 case pick c a b=>rw[<-he.1,<-he.2.1,<-he.2.2];exact h
 case qu o=>rw[<-he];exact h
 case aL off o=>rw[<-he];exact h
 case idx sz x i=>rw[<-he.1,<-he.2];exact h
 case pG x i=>rw[<-he.1,<-he.2];exact h
 case fld a off n o=>rw[<-he];exact h
 case ext i o=>rw[<-he];exact h
 case len st o=>rw[<-he];exact h
 case un op o=>rw[<-he];exact h
 case conv k o=>rw[<-he];exact h
 case bin op x y=>rw[<-he.1,<-he.2];exact h
 case load agg n o=>
  rw[<-he];unfold bV at h|-;split at h
  .rename_i cs j;rw[hr rfl o (by simp[RX.bp]) trivial _ j];exact h
  .exact h.elim
 case lod bnd agg n o=>
  rw[<-he];obtain⟨s,h⟩:=af.1 h;refine af.2 ⟨s,?_⟩;unfold bV at h|-;split at h
  .rename_i cs j;rw[hr rfl o (by simp[RX.bp]) s _ j];exact h
  .exact h.elim
 case build v ps=>exact sW he h
 case aM sz rs=>exact o6 he h
 case mk sz z l c=>rw[<-he.1,<-he.2];exact h
 case iX mx x y=>rw[<-he.1,<-he.2];exact h
 case Bh t sz x i=>rw[<-he.1,<-he.2];exact h
 case mi agg t sz x i=>rw[<-he.1,<-he.2];exact h
 case slc sz x lo e mx=>
  have r:lo.map ev=lo.map d:=by cases lo with|none=>rfl|some o=>simp only[zM];rw[he.2 o (by simp)]
  have q:e.map ev=e.map d:=by cases e with|none=>rfl|some o=>simp only[zM];rw[he.2 o (by simp)]
  have u:mx.map ev=mx.map d:=by cases mx with|none=>rfl|some o=>simp only[zM];rw[he.2 o (by simp)]
  rw[<-he.1,<-r,<-q,<-u];exact h
 case HE x lo e=>
  have r:lo.map ev=lo.map d:=by cases lo with|none=>rfl|some o=>simp only[zM];rw[he.2 o (by simp)]
  have q:e.map ev=e.map d:=by cases e with|none=>rfl|some o=>simp only[zM];rw[he.2 o (by simp)]
  rw[<-he.1,<-r,<-q];exact h
 case more g args=>rw[<-dw he];exact h
 case pD f xs ys=>rw[<-dw λo p=>he o (ZB _ p),<-dw λo p=>he o (ZU _ p)];exact h
theorem pH{ev:Opd->AV}:∀{ps:List (Nat×Nat×Opd)} {cs:List AV} {K K':List AV->Prop},(∀x,K x->K' x)->mJ ev ps cs K->mJ ev ps cs K'
 |[],_,_,_,hk,h=>hk _ h
 |(_,_,_)::_,_,_,_,hk,h=>af.2 ⟨(af.1 h).1,pH hk (af.1 h).2⟩
theorem Dk{ev:Opd->AV}:∀{ps:List (Nat×Nat×Opd)} {cs:List AV} {K:List AV->Prop},mJ ev ps cs K->∃r,mJ ev ps cs (λx=>x=r)/\K r
 |[],cs,_,h=>⟨cs,rfl,h⟩
 |(_,_,_)::_,_,_,h=>let ⟨r,b,a⟩:=Dk (af.1 h).2;⟨r,af.2 ⟨(af.1 h).1,b⟩,a⟩
theorem hZ{ev:Opd->AV}{sz:Nat}:∀{os:List Opd} {K K':List AV->Prop},(∀x,K x->K' x)->dR ev sz os K->dR ev sz os K'
 |[],_,_,hk,h=>hk _ h
 |_::_,_,_,hk,h=>af.2 ⟨(af.1 h).1,hZ (λ_ a=>hk _ a) (af.1 h).2⟩
theorem vR{ev:Opd->AV}{sz:Nat}:∀{os:List Opd} {K:List AV->Prop},dR ev sz os K->∃r,dR ev sz os (λx=>x=r)/\K r
 |[],_,h=>⟨[],rfl,h⟩
 |o::_,_,h=>let ⟨r,c,b⟩:=vR (af.1 h).2;⟨(ev o).norm::r,af.2 ⟨(af.1 h).1,hZ (λx a=>by rw[a]) c⟩,b⟩
theorem ql{rx:RX}{ev:Opd->AV}{rd:AV->Option (List AV)}{K K':AV->Prop}(hk:∀x,K x->K' x)(h:rx.pK ev rd K):rx.pK ev rd K':=by
 cases rx<;>simp only[RX.pK] at h|-
 case mov o=>exact hk _ h
 case pick c a b=>
  unfold xJ at h|-;split at h
  .exact ⟨λe=>hk _ (h.1 e),λe=>hk _ (h.2 e)⟩
  .exact h
 case qu o=>unfold u7 at h|-;split at h<;>first|exact hk _ h|exact h
 case aL off o=>exact af.2 ⟨(af.1 h).1,hk _ (af.1 h).2⟩
 case idx sz x i=>
  unfold Ib at h|-;split at h
  .obtain ⟨y,j,d⟩:=h;exact⟨y,j,hk _ d⟩
  .exact ⟨h.1,hk _ h.2⟩
  .exact h
 case pG x i=>
  unfold x6 at h|-;split at h
  .obtain ⟨y,j,d⟩:=h;exact⟨y,j,hk _ d⟩
  .exact h
 case fld agg off n o=>
  unfold KN at h|-;split at h
  .split at h
   .exact af.2 ⟨(af.1 h).1,hk _ (af.1 h).2⟩
   .split at h<;>first|exact hk _ h|exact h
  .exact h
 case ext i o=>
  unfold KQ at h|-;split at h
  .split at h<;>first|exact hk _ h|exact h
  .exact h
 case len st o=>unfold H2 at h|-;split at h<;>first|exact hk _ h|exact h
 case un op o=>unfold unK at h|-;split at h<;>first|exact hk _ h|exact h
 case conv k o=>unfold yj at h|-;split at h<;>first|exact hk _ h|exact h
 case bin op x y=>
  unfold Bw at h|-;split at h
  .refine af.2 ⟨(af.1 h).1,?_⟩;have h:=(af.1 h).2;split at h<;>first|exact hk _ h|exact⟨h.1,hk _ h.2⟩|exact h
  .split at h<;>first|exact hk _ h|exact⟨h.1,hk _ h.2⟩|exact h
  .exact h
 case load agg n o=>
  unfold bV at h|-;split at h
  .split at h
   .exact af.2 ⟨(af.1 h).1,hk _ (af.1 h).2⟩
   .split at h<;>first|exact hk _ h|exact h
  .exact h
 case lod bnd agg n o=>
  obtain⟨s,h⟩:=af.1 h;refine af.2 ⟨s,?_⟩;unfold bV at h|-;split at h
  .split at h
   .exact af.2 ⟨(af.1 h).1,hk _ (af.1 h).2⟩
   .split at h<;>first|exact hk _ h|exact h
  .exact h
 case build t ps=>exact pH (λx p=>hk _ p) h
 case aM sz rs=>exact hZ (λx p=>hk _ p) h
 case mk sz z l c=>unfold mkK at h|-;split at h<;>first|exact⟨h.1,hk _ h.2⟩|exact h
 case iX mx x y=>
  unfold mmK at h|-;split at h
  .exact af.2 ⟨(af.1 h).1,hk _ (af.1 h).2⟩
  .exact h
 case Bh q sz x i=>
  unfold x8 at h|-;split at h
  .exact af.2 ⟨(af.1 h).1,(af.1 h).2.1,hk _ (af.1 h).2.2⟩
  .exact h
 case mi agg q sz x i=>
  unfold C9 at h|-;split at h
  .refine ⟨h.1,?_⟩;have h:=h.2;split at h
   .exact af.2 ⟨(af.1 h).1,hk _ (af.1 h).2⟩
   .obtain ⟨c,j,d⟩:=h;exact⟨c,j,hk _ d⟩
  .exact h
 case slc sz x lo r mx=>
  unfold Et at h|-;split at h
  .refine b6 (λa h=>b6 (λb h=>?_) h) h;split at h
   .exact ⟨h.1,hk _ h.2⟩
   .exact b6 (λm h=>⟨h.1,hk _ h.2⟩) h
  .refine b6 (λa h=>b6 (λb h=>?_) h) h;split at h
   .exact ⟨h.1,hk _ h.2⟩
   .exact b6 (λm h=>⟨h.1,hk _ h.2⟩) h
  .exact h
 case HE x lo r=>
  unfold BU at h|-;split at h
  .exact b6 (λa h=>b6 (λb h=>⟨h.1,hk _ h.2⟩) h) h
  .exact h
 case more g args=>exact EV hk h
 case pD f xs ys=>exact hk _ h
theorem OI{rx:RX}{ev:Opd->AV}{rd:AV->Option (List AV)}{K:AV->Prop}(h:rx.pK ev rd K):∃r,rx.pK ev rd (λx=>x=r)/\K r:=by
 cases rx<;>simp only[RX.pK] at h|-
 case mov o=>exact⟨_,rfl,h⟩
 case pick c a b=>
  unfold xJ at h|-;split at h
  .rename_i t _
   cases t with
   |true=>exact⟨_,⟨λ_=>rfl,(λe=>by cases e)⟩,h.1 rfl⟩
   |false=>exact⟨_,⟨(λe=>by cases e),λ_=>rfl⟩,h.2 rfl⟩
  .exact h.elim
 case qu o=>unfold u7 at h|-;split at h<;>first|exact⟨_,rfl,h⟩|exact h.elim
 case aL off o=>exact⟨_,af.2 ⟨(af.1 h).1,rfl⟩,(af.1 h).2⟩
 case idx sz x i=>
  unfold Ib at h|-;split at h
  .obtain ⟨y,j,d⟩:=h;exact⟨_,⟨y,j,rfl⟩,d⟩
  .exact ⟨_,⟨h.1,rfl⟩,h.2⟩
  .exact h.elim
 case pG x i=>
  unfold x6 at h|-;split at h
  .obtain ⟨y,j,d⟩:=h;exact⟨_,⟨y,j,rfl⟩,d⟩
  .exact h.elim
 case fld agg off n o=>
  unfold KN at h|-;split at h
  .split at h
   .exact ⟨_,af.2 ⟨(af.1 h).1,rfl⟩,(af.1 h).2⟩
   .split at h<;>first|exact⟨_,rfl,h⟩|exact h.elim
  .exact h.elim
 case ext i o=>
  unfold KQ at h|-;split at h
  .split at h<;>first|exact⟨_,rfl,h⟩|exact h.elim
  .exact h.elim
 case len st o=>unfold H2 at h|-;split at h<;>first|exact⟨_,rfl,h⟩|exact h.elim
 case un op o=>unfold unK at h|-;split at h<;>first|exact⟨_,rfl,h⟩|exact h.elim
 case conv k o=>unfold yj at h|-;split at h<;>first|exact⟨_,rfl,h⟩|exact h.elim
 case bin op x y=>
  unfold Bw at h|-;split at h
  .obtain ⟨q,h⟩:=af.1 h;split at h<;>first|exact⟨_,af.2 ⟨q,rfl⟩,h⟩|exact⟨_,af.2 ⟨q,h.1,rfl⟩,h.2⟩|exact h.elim
  .split at h<;>first|exact⟨_,rfl,h⟩|exact⟨_,⟨h.1,rfl⟩,h.2⟩|exact h.elim
  .exact h.elim
 case load agg n o=>
  unfold bV at h|-;split at h
  .split at h
   .exact ⟨_,af.2 ⟨(af.1 h).1,rfl⟩,(af.1 h).2⟩
   .split at h<;>first|exact⟨_,rfl,h⟩|exact h.elim
  .exact h.elim
 case lod bnd agg n o=>
  obtain⟨q,h⟩:=af.1 h
  suffices B:∃r,bV agg n (rd (ev o)) (λx=>x=r)/\K r from B.imp λr ⟨v,u⟩=>⟨af.2 ⟨q,v⟩,u⟩
  unfold bV at h|-;split at h
  .split at h
   .exact ⟨_,af.2 ⟨(af.1 h).1,rfl⟩,(af.1 h).2⟩
   .split at h<;>first|exact⟨_,rfl,h⟩|exact h.elim
  .exact h.elim
 case build C ps=>
  obtain⟨r,j,d⟩:=Dk h;exact⟨_,pH (λx s=>by rw[s]) j,d⟩
 case aM sz rs=>
  obtain⟨r,j,d⟩:=vR h;exact⟨_,hZ (λx s=>by rw[s]) j,d⟩
 case mk sz z l c=>unfold mkK at h|-;split at h<;>first|exact⟨_,⟨h.1,rfl⟩,h.2⟩|exact h.elim
 case iX mx x y=>
  unfold mmK at h|-;split at h
  .exact ⟨_,af.2 ⟨(af.1 h).1,rfl⟩,(af.1 h).2⟩
  .exact h.elim
 case Bh w sz x i=>
  unfold x8 at h|-;split at h
  .exact ⟨_,af.2 ⟨(af.1 h).1,(af.1 h).2.1,rfl⟩,(af.1 h).2.2⟩
  .exact h.elim
 case mi agg w sz x i=>
  unfold C9 at h|-;split at h
  .obtain ⟨q,h⟩:=h;split at h
   .exact ⟨_,⟨q,af.2 ⟨(af.1 h).1,rfl⟩⟩,(af.1 h).2⟩
   .obtain ⟨c,j,d⟩:=h;exact⟨_,⟨q,c,j,rfl⟩,d⟩
  .exact h.elim
 case slc sz x lo A mx=>
  unfold Et at h|-;split at h
  .obtain ⟨a,p,h⟩:=dE h;obtain⟨b,hb,h⟩:=dE h;split at h
   .exact ⟨_,p _ (hb _ ⟨h.1,rfl⟩),h.2⟩
   .obtain ⟨m,hm,h⟩:=dE h;exact⟨_,p _ (hb _ (hm _ ⟨h.1,rfl⟩)),h.2⟩
  .obtain ⟨a,p,h⟩:=dE h;obtain⟨b,hb,h⟩:=dE h;split at h
   .exact ⟨_,p _ (hb _ ⟨h.1,rfl⟩),h.2⟩
   .obtain ⟨m,hm,h⟩:=dE h;exact⟨_,p _ (hb _ (hm _ ⟨h.1,rfl⟩)),h.2⟩
  .exact h.elim
 case HE x lo A=>
  unfold BU at h|-;split at h
  .obtain ⟨a,p,h⟩:=dE h;obtain⟨b,hb,h⟩:=dE h;exact⟨_,p _ (hb _ ⟨h.1,rfl⟩),h.2⟩
  .exact h.elim
 case more g args=>exact nF h
 case pD f xs ys=>exact⟨_,rfl,h⟩
 all_goals exact h.elim
def RX.qK(P:Program)(rx:RX)(ev:Opd->AV)(rd:AV->Option (List AV))(K:AV->Prop):Prop:=
 match rx with
 |.call f args=>e9 P (ev f) (evs ev args) K
 |.dM f args=>DH P (ev f)/\e9 P (ev f) (evs ev args) K
 |rx=>rx.pK ev rd K
theorem Gx{P:Program}{rx:RX}(h:∀f args,rx≠.call f args)(a:∀f args,rx≠.dM f args)(ev:Opd->AV)(rd:AV->Option (List AV))(K:AV->Prop):rx.qK P ev rd K=rx.pK ev rd K:=by
 cases rx<;>first|rfl|exact absurd rfl (h _ _)|exact absurd rfl (a _ _)
theorem bJ{P:Program}{rx:RX}(hp:rx.ep=true){s:St}{d:Option Nat}{K:St->Prop}:rx.run P true s d K↔rx.qK P s.ev s.rd λv=>K (s.put d v):=by
 cases rx<;>first|exact Iff.rfl|(simp[RX.ep] at hp)
theorem ns{P:Program}{rx:RX}{ev b:Opd->AV}{rd a:AV->Option (List AV)}(he:∀o∈rx.bp,ev o=b o)(hr:rx.looks=true->∀o∈rx.bp,rx.vk (ev o)->∀cs,rd (ev o)=some cs->a (ev o)=some cs){K:AV->Prop}(h:rx.qK P ev rd K):rx.qK P b a K:=by
 cases rx
 case call f args=>
  simp only[RX.bp,zI,forall_eq_or_imp] at he;simp only[RX.qK] at h|-;rw[<-he.1,<-dw he.2];exact h
 case dM f args=>
  simp only[RX.bp,zI,forall_eq_or_imp] at he;simp only[RX.qK] at h|-;rw[<-he.1,<-dw he.2];exact h
 all_goals (rw[Gx (by simp) (by simp)] at h|-;exact JO he hr h)
theorem lW{P:Program}{rx:RX}{ev:Opd->AV}{rd:AV->Option (List AV)}{K K':AV->Prop}(hk:∀x,K x->K' x)(h:rx.qK P ev rd K):rx.qK P ev rd K':=by
 cases rx
 case call f args=>
  simp only[RX.qK] at h|-;unfold e9 at h|-;split at h
  .obtain ⟨r,b,a⟩:=h;exact⟨r,b,hk _ a⟩
  .exact h
 case dM f args=>
  simp only[RX.qK] at h|-;refine⟨h.1,?_⟩;have h:=h.2;unfold e9 at h|-;split at h
  .obtain ⟨r,b,a⟩:=h;exact⟨r,b,hk _ a⟩
  .exact h
 all_goals (rw[Gx (by simp) (by simp)] at h|-;exact ql hk h)
theorem Cp{P:Program}{rx:RX}{ev:Opd->AV}{rd:AV->Option (List AV)}{K:AV->Prop}(h:rx.qK P ev rd K):∃r,rx.qK P ev rd (λx=>x=r)/\K r:=by
 cases rx
 case call f args=>
  simp only[RX.qK] at h|-;unfold e9 at h|-;split at h
  .obtain ⟨r,b,a⟩:=h;exact⟨r,⟨r,b,rfl⟩,a⟩
  .exact h.elim
 case dM f args=>
  simp only[RX.qK] at h|-;obtain⟨c,h⟩:=h;unfold e9 at h|-;split at h
  .obtain ⟨r,b,a⟩:=h;exact⟨r,⟨c,r,b,rfl⟩,a⟩
  .exact h.elim
 all_goals (rw[Gx (by simp) (by simp)] at h;obtain⟨r,b,a⟩:=OI h;exact⟨r,by rw[Gx (by simp) (by simp)];exact b,a⟩)
theorem gg{a b:Nat}(h:a<b):Nat.blt a b=true:=by rw[Nat.blt_eq];exact h
theorem c6{a b:Nat}(h:¬a<b):Nat.blt a b=false:=by
 cases hb:Nat.blt a b with
 |false=>rfl
 |true=>rw[Nat.blt_eq] at hb;exact absurd hb h
theorem lI(a:Nat):Nat.beq a a=true:=by simp
theorem sX:∀(e:List (Nat×AV)) {j k:Nat} (x y:AV),j≠k->aT (aT e j x) k y=aT (aT e k y) j x
 |[],j,k,x,y,h=>by
  have c:Nat.beq j k=false:=cw h;have b:Nat.beq k j=false:=cw (Ne.symm h)
  by_cases a:k<j
  .simp only[aT,c,b,gg a,c6 (show¬j<k by omega)]
  .simp only[aT,c,b,c6 a,gg (show j<k by omega)]
 |(t,u)::r,j,k,x,y,h=>by
  have c:Nat.beq j k=false:=cw h;have b:Nat.beq k j=false:=cw (Ne.symm h);have ih:=sX r x y h
  by_cases g:t=j
  .subst g
   by_cases a:k<t
   .simp only[aT,lI,c,b,gg a,c6 (show¬t<k by omega)]
   .simp only[aT,lI,c,c6 a]
  .by_cases f:t=k
   .subst f
    by_cases a:j<t
    .simp only[aT,lI,c,b,gg a,c6 (show¬t<j by omega)]
    .simp only[aT,lI,b,c6 a]
   .have l:Nat.beq t j=false:=cw g;have i:Nat.beq t k=false:=cw f
    by_cases a:j<t
    .by_cases d:k<t
     .by_cases m:k<j
      .simp only[aT,l,i,c,b,gg a,gg d,gg m,c6 (show¬j<k by omega)]
      .simp only[aT,l,i,c,b,gg a,gg d,c6 m,gg (show j<k by omega)]
     .simp only[aT,l,i,c,gg a,c6 d,c6 (show¬k<j by omega)]
    .by_cases d:k<t
     .simp only[aT,l,i,b,c6 a,gg d,c6 (show¬j<k by omega)]
     .simp only[aT,l,i,c6 a,c6 d,ih]
theorem St.put_comm(s:St){j k:Nat}(x y:AV)(h:j≠k):(s.put (some j) x).put (some k) y=(s.put (some k) y).put (some j) x:=by
 simp only[St.put,sX _ _ _ h]
theorem St.fu(s:St)(k:Nat)(v:AV){t:Nat}(h:t≠k):(s.put (some k) v).get t=s.get t:=by
 rw[St.get_at,St.get_at,St.dY,if_neg (by simpa using h)]
theorem St.Bk(s:St)(k:Nat)(v:AV){o:Opd}(h:k∉o.cn):(s.put (some k) v).ev o=s.ev o:=by
 cases o with
 |t j=>simp only[St.ev];rw[St.fu];simpa[Opd.cn,eq_comm] using h
 |c x=>rfl
theorem St.rq(s:St)(d:Option Nat)(v:AV):(s.put d v).rd=s.rd:=by
 funext x
 cases d<;>(cases x<;>rfl)
theorem B9{P:Program}{rx:RX}{d:Option Nat}{k:Nat}(v:AV)(r:k∉slotsOf rx.bp)(i:d≠some k){s:St}{K:St->Prop}:
  rx.run P true (s.put (some k) v) d K↔rx.run P true s d (λA=>K (A.put (some k) v)):=by
 have b:∀o∈rx.bp,(s.put (some k) v).ev o=s.ev o:=λo q=>St.Bk s k v λhk=>r (eg q hk)
 have a:∀y,(s.put (some k) v).put d y=(s.put d y).put (some k) v:=λy=>by
  cases d with
  |none=>rfl
  |some j=>exact St.put_comm s v y (λe=>i (by rw[e]))
 cases hp:rx.ep with
 |true=>
  rw[bJ hp,bJ hp];constructor
  .intro h;exact lW (λy m=>by rw[<-a];exact m) (ns b (λ_ o _ _ cs e=>by rw[<-St.rq s (some k) v];exact e) h)
  .intro h;refine ns (λo q=>(b o q).symm) (λ_ o _ _ cs e=>by rw[St.rq];exact e) (lW (λy m=>?_) h)
   rw[a];exact m
 |false=>
  cases rx<;>simp[RX.ep] at hp
  case eff e args=>exact Iff.rfl
  case take t=>
   have f:t≠k:=λe=>r (by simp[RX.bp,slotsOf,Opd.cn,e])
   simp only[RX.run,tv,St.fu s k v f];cases s.get t<;>try (simp only[a];done)
   rename_i c l
   cases c with
   |no=>simp only[a]
   |full=>simp only[a]
   |own w=>
    cases d with
    |none=>exact Iff.rfl
    |some d=>
     have g:d≠k:=λe=>i (by rw[e])
     have:∀x y u,((((s.put (some k) v).put (some d) x).put (some t) y).put (some d) u)=((((s.put (some d) x).put (some t) y).put (some d) u).put (some k) v):=λx y u=>by
      rw[St.put_comm s v x (Ne.symm g),St.put_comm _ v y (Ne.symm f),St.put_comm _ v u (Ne.symm g)]
     simp only[this]
  case box o=>
   simp only[RX.run,IN];rw[b o (by simp[RX.bp])]
   have:∀y cs,(((s.put (some k) v).gh cs).put d y)=(((s.gh cs).put d y).put (some k) v):=λy cs=>by
    cases d with
    |none=>rfl
    |some j=>exact St.put_comm (s.gh cs) v y (λe=>i (by rw[e]))
   have hb:(s.put (some k) v).bs=s.bs:=rfl;rw[hb,this]
  case store n p x=>
   simp only[RX.run,bW];rw[b p (by simp[RX.bp]),b x (by simp[RX.bp])]
   cases s.ev p<;>exact Iff.rfl
  case stn bnd n p x=>
   simp only[RX.run,wK,bW];rw[b p (by simp[RX.bp]),b x (by simp[RX.bp])]
   cases s.ev p<;>exact Iff.rfl
  case append z o x=>
   simp only[RX.run,fy];rw[b x (by simp[RX.bp])]
   cases s.ev x<;>try exact Iff.rfl
   rename_i c xs
   cases o with
   |t t=>
    have f:t≠k:=λe=>r (by simp[RX.bp,slotsOf,Opd.cn,e])
    simp only[St.fu s k v f];cases s.get t<;>try exact Iff.rfl
    rename_i c l
    cases c with
    |no=>exact Iff.rfl
    |full=>simp only[a]
    |own w=>
     have:∀y,(((s.put (some k) v).put (some t) (.sl .no l)).put d y)=(((s.put (some t) (.sl .no l)).put d y).put (some k) v):=λy=>by
      rw[St.put_comm s v _ (Ne.symm f)]
      cases d with
      |none=>rfl
      |some j=>exact St.put_comm _ v y (λe=>i (by rw[e]))
     simp only[this]
   |c y=>
    cases y<;>try exact Iff.rfl
    rename_i c l
    cases c with
    |full=>simp only[a]
    |_=>exact Iff.rfl
theorem Am{P:Program}{rx:RX}{d:Option Nat}{s:St}{K K':St->Prop}{g:Bool}(hk:∀x,K x->K' x)(h:rx.run P g s d K):rx.run P g s d K':=by
 cases rx
 case mov o=>
  cases g with
  |true=>exact hk _ h
  |false=>
   simp only[RX.run,tv] at h|-;split at h
   .exact hk _ h
   .split at h
    .split at h
     .exact af.2 ⟨(af.1 h).1,hk _ (af.1 h).2⟩
     .exact h
    .exact hk _ h
 case take t=>
  simp only[RX.run,tv] at h|-;split at h
  .split at h
   .exact af.2 ⟨(af.1 h).1,hk _ (af.1 h).2⟩
   .exact h
  .exact hk _ h
 case dM f args=>
  refine⟨h.1,?_⟩;have h:=h.2
  cases g with
  |true=>
   simp only at h|-;unfold e9 at h|-;split at h
   .obtain ⟨r,c,b⟩:=h;exact⟨r,c,hk _ b⟩
   .exact h
  |false=>
   simp only[jD] at h|-;split at h
   .obtain ⟨Q,c,b⟩:=h;exact⟨Q,c,λr bs' j=>hk _ (b r bs' j)⟩
   .obtain ⟨Q,c,b⟩:=h;exact⟨Q,c,λr bs' j=>hk _ (b r bs' j)⟩
   .exact h
 case box o=>exact af.2 ⟨(af.1 h).1,hk _ (af.1 h).2⟩
 case load agg n o=>
  cases g with
  |true=>exact ql (rx:=.load agg n o) (λx a=>hk _ a) h
  |false=>
   simp only[RX.run,eA] at h|-;split at h
   .split at h
    .exact hk _ h
    .exact ql (rx:=.load false n o) (ev:=λ_=>_) (λx a=>hk _ a) h
   .exact ql (rx:=.load _ n o) (ev:=λ_=>_) (λx a=>hk _ a) h
 case store n p x=>
  have i:∀n p v,bW n s p v K->bW n s p v K':=λn p v h=>by
   simp only[bW] at h|-;split at h
   .split at h
    .exact af.2 ⟨(af.1 h).1,hk _ (af.1 h).2⟩
    .exact h
   .exact h
  cases g with
  |true=>exact i _ _ _ h
  |false=>
   simp only[RX.run,gn] at h|-;split at h
   .split at h
    .split at h
     .exact af.2 ⟨(af.1 h).1,hk _ (af.1 h).2⟩
     .exact h
    .exact i _ _ _ h
   .unfold lM at h|-;split at h
    .exact ⟨h.1,hk _ h.2⟩
    .exact h
   .exact i _ _ _ h
 case stn k n p x=>
  cases g with
  |false=>exact h
  |true=>
   simp only[RX.run,wK,bW] at h|-;split at h
   .refine af.2 ⟨(af.1 h).1,?_⟩;have h:=(af.1 h).2;split at h
    .exact af.2 ⟨(af.1 h).1,hk _ (af.1 h).2⟩
    .exact h
   .exact h
 case append z o x=>
  simp only[RX.run,fy] at h|-;split at h
  .split at h
   .split at h
    .exact af.2 ⟨(af.1 h).1,(af.1 h).2.1,hk _ (af.1 h).2.2⟩
    .exact ⟨h.1,hk _ h.2⟩
    .exact h
   .exact ⟨h.1,hk _ h.2⟩
   .exact h
  .exact h
 case call f args=>
  cases g with
  |true=>exact lW (rx:=.call f args) (rd:=s.rd) (λx a=>hk _ a) h
  |false=>
   simp only[RX.run,jD] at h|-;split at h
   .obtain ⟨Q,c,b⟩:=h;exact⟨Q,c,λr bs' j=>hk _ (b r bs' j)⟩
   .obtain ⟨Q,c,b⟩:=h;exact⟨Q,c,λr bs' j=>hk _ (b r bs' j)⟩
   .exact h
 case eff e args=>
  cases g with
  |true=>exact h
  |false=>exact Ip hk h
 all_goals (simp only[RX.run] at h|-;exact ql (λx a=>hk _ a) h)
theorem MM{P:Program}{rx:RX}{d:Option Nat}{s:St}{K:St->Prop}(h:rx.run P true s d K):∃s1,rx.run P true s d (λx=>x=s1)/\K s1:=by
 cases hp:rx.ep with
 |true=>
  rw[bJ hp] at h;obtain⟨r,a,f⟩:=Cp h
  exact⟨_,(bJ hp).2 (lW (λx c=>by rw[c]) a),f⟩
 |false=>
  cases rx<;>simp[RX.ep] at hp
  case eff e args=>exact h.elim
  case take t=>
   simp only[RX.run,tv] at h|-;split at h
   .split at h
    .exact ⟨_,af.2 ⟨(af.1 h).1,rfl⟩,(af.1 h).2⟩
    .exact h.elim
   .exact ⟨_,rfl,h⟩
  case box o=>exact⟨_,af.2 ⟨(af.1 h).1,rfl⟩,(af.1 h).2⟩
  case store n p x=>
   simp only[RX.run,bW] at h|-;split at h
   .split at h
    .exact ⟨_,af.2 ⟨(af.1 h).1,rfl⟩,(af.1 h).2⟩
    .exact h.elim
   .exact h.elim
  case stn b n p x=>
   simp only[RX.run,wK,bW] at h|-;split at h
   .have a:=(af.1 h).1;have h:=(af.1 h).2;split at h
    .exact ⟨_,af.2 ⟨a,af.2 ⟨(af.1 h).1,rfl⟩⟩,(af.1 h).2⟩
    .exact h.elim
   .exact h.elim
  case append z o x=>
   simp only[RX.run,fy] at h|-;split at h
   .split at h
    .split at h
     .exact ⟨_,af.2 ⟨(af.1 h).1,(af.1 h).2.1,rfl⟩,(af.1 h).2.2⟩
     .exact ⟨_,⟨h.1,rfl⟩,h.2⟩
     .exact h.elim
    .exact ⟨_,⟨h.1,rfl⟩,h.2⟩
    .exact h.elim
   .exact h.elim
theorem JD{P:Program}{rx:RX}{d:Option Nat}{s s1:St}(h:rx.run P true s d (λx=>x=s1)){k:Nat}(g:d≠some k)(f:rx.nL k=false):s1.get k=s.get k:=by
 have a:∀(s:St) y,(s.put d y).get k=s.get k:=λs y=>by
  cases d with
  |none=>rfl
  |some j=>exact St.fu s j y (λe=>g (by rw[e]))
 cases hp:rx.ep with
 |true=>
  rw[bJ hp] at h;obtain⟨r,_,rfl⟩:=Cp h
  exact a s r
 |false=>
  cases rx<;>simp[RX.ep] at hp
  case eff e args=>exact h.elim
  case take t=>
   have b:k≠t:=λe=>by subst e;simp[RX.nL] at f
   simp only[RX.run,tv] at h;split at h
   .split at h
    .rename_i d;have c:k≠d:=λe=>g (by rw[e])
     have:=(af.1 h).2;subst this;rw[St.fu _ _ _ c,St.fu _ _ _ b,St.fu _ _ _ c]
    .exact h.elim
   .subst h;exact a _ _
  case box o=>
   have:=(af.1 h).2;subst this;exact a _ _
  case store n p x=>
   simp only[RX.run,bW] at h;split at h
   .split at h
    .have:=(af.1 h).2;subst this;rfl
    .exact h.elim
   .exact h.elim
  case stn i n p x=>
   simp only[RX.run,wK,bW] at h;split at h
   .have h:=(af.1 h).2;split at h
    .have:=(af.1 h).2;subst this;rfl
    .exact h.elim
   .exact h.elim
  case append z o x=>
   simp only[RX.run,fy] at h;split at h
   .split at h
    .rename_i t;have b:k≠t:=λe=>by subst e;simp[RX.nL] at f
     split at h
     .have:=(af.1 h).2.2;subst this;rw[a,St.fu _ _ _ b]
     .have:=h.2;subst this;exact a _ _
     .exact h.elim
    .have:=h.2;subst this;exact a _ _
    .exact h.elim
   .exact h.elim
def St.oI:St->List (Nat×AV)->St
 |s,[]=>s
 |s,(k,v)::r=>(s.put (some k) v).oI r
theorem St.LS(s:St):∀ps:List (Nat×AV),(s.oI ps).bs=s.bs:=λps=>by
 induction ps generalizing s with
 |nil=>rfl
 |cons p ps ih=>obtain⟨k,v⟩:=p;simp only[St.oI];rw[ih];rfl
theorem Bl{s a:St}{o:Opd}(h:∀k∈o.cn,a.get k=s.get k):a.ev o=s.ev o:=by
 cases o with
 |t k=>simp only[St.ev];rw[h k (by simp[Opd.cn])]
 |c x=>rfl
theorem JC{P:Program}{rx:RX}(hp:rx.kK=true){d:Option Nat}{s s1:St}(h:rx.run P true s d (λx=>x=s1)):
  ∃ps,s1=s.oI ps/\(∀p∈ps,d=some p.1\/rx.nL p.1=true)/\∀a,(∀k∈slotsOf rx.bp,a.get k=s.get k)->(rx.looks=true->∀o∈rx.bp,rx.vk (s.ev o)->∀cs,s.rd (s.ev o)=some cs->a.rd (s.ev o)=some cs)->rx.run P true a d (λx=>x=a.oI ps):=by
 have b:∀v,∃ps,(∀s:St,s.put d v=s.oI ps)/\∀p∈ps,d=some p.1:=λv=>by
  cases d with
  |none=>exact⟨[],λs=>rfl,λp hp=>by cases hp⟩
  |some k=>exact⟨[(k,v)],λs=>rfl,λp hp=>by simp at hp;rw[hp]⟩
 cases i:rx.ep with
 |true=>
  rw[bJ i] at h;obtain⟨v,r,q⟩:=Cp h;obtain⟨ps,e,f⟩:=b v;refine⟨ps,by rw[<-q,e],λp hp=>.inl (f p hp),λa hr w=>?_⟩
  rw[bJ i];refine lW (λx m=>by rw[m,e]) (ns (λo u=>(Bl λk hk=>?_).symm) w r)
  exact hr k (eg u hk)
 |false=>
  cases rx<;>simp[RX.ep,RX.kK] at i hp
  case take t=>
   simp only[RX.run,tv] at h|-;split at h
   .rename_i z l j;split at h
    .rename_i k;obtain⟨r,q⟩:=af.1 h;refine⟨[(k,.sl .no l),(t,.sl .no l),(k,.sl (.own z) l)],q.symm,λp hp=>?_,λa hr _=>?_⟩
     .simp only[zI,yU,or_false] at hp;rcases hp with rfl|rfl|rfl
      .exact .inl rfl
      .exact .inr (by simp[RX.nL])
      .exact .inl rfl
     .have:=hr t (by simp[RX.bp,slotsOf,Opd.cn])
      rw[this,j];exact af.2 ⟨r,rfl⟩
    .exact h.elim
   .rename_i n;obtain⟨ps,e,f⟩:=b (s.get t);refine⟨ps,by rw[<-h,e],λp hp=>.inl (f p hp),λa hr _=>?_⟩
    have:=hr t (by simp[RX.bp,slotsOf,Opd.cn])
    rw[this];split
    .rename_i z l j;exact absurd j (n z l)
    .rw [e]
  case append z o x=>
   simp only[RX.run,fy] at h|-;have m:∀a:St,(∀k∈slotsOf (RX.append z o x).bp,a.get k=s.get k)->a.ev x=s.ev x:=λa hr=>Bl λk hk=>hr k (eg (o:=x) (by simp[RX.bp]) hk)
   split at h
   .rename_i c xs g;split at h
    .rename_i t;split at h
     .rename_i A l j;obtain⟨r,q,y⟩:=af.1 h;obtain⟨ps,e,f⟩:=b (.sl (.own z) (l++xs));refine⟨(t,.sl .no l)::ps,by rw[<-y,e];rfl,λp hp=>?_,λa hr _=>?_⟩
      .rcases zI.1 hp with rfl|hp
       .exact .inr (by simp[RX.nL])
       .exact .inl (f p hp)
      .rw [m a hr,g];simp only;rw[hr t (by simp[RX.bp,slotsOf,Opd.cn]),j]
       exact af.2 ⟨r,q,by rw[e];rfl⟩
     .rename_i l j;obtain⟨ps,e,f⟩:=b (.sl (.own z) (l++xs));refine⟨ps,by rw[<-h.2,e],λp hp=>.inl (f p hp),λa hr _=>?_⟩
      rw[m a hr,g];simp only;rw[hr t (by simp[RX.bp,slotsOf,Opd.cn]),j]
      exact⟨h.1,by rw[e]⟩
     .exact h.elim
    .rename_i l;obtain⟨ps,e,f⟩:=b (.sl (.own z) (l++xs));refine⟨ps,by rw[<-h.2,e],λp hp=>.inl (f p hp),λa hr _=>?_⟩
     rw[m a hr,g];exact⟨h.1,by rw[e]⟩
    .exact h.elim
   .exact h.elim
end Go.AM
