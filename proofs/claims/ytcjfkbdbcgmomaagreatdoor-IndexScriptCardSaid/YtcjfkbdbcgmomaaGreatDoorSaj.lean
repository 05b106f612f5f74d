/-
  Texts of this aV joined (wip/gen/bundle.py),those declarations only that are needed:AmX. By an AI agent.
-/
import Derived.Test.YtcjfkbdbcgmomaaGreatDoorSai
set_option linter.unusedSimpArgs false
set_option linter.unusedVariables false
namespace Go.AM
open Go.CK Go.RowKit
def Opd.ck:Opd->List Nat
 |.t k=>[k]
 |.c _=>[]
def slotsOf:List Opd->List Nat
 |[]=>[]
 |o::os=>o.ck++slotsOf os
def RX.bd:RX->List Opd
 |.mov o|.mJ o|.bn _ o|.fld _ _ _ o|.ext _ o|.len _ o|.un _ o|.conv _ o|.load _ _ o|.lod _ _ _ o|.box o=>[o]
 |.pick c a b=>[c,a,b]
 |.idx _ x i|.oW x i|.bin _ x i|.mk _ _ x i|.store _ x i|.stn _ _ x i|.append _ x i=>[x,i]
 |.build _ ps=>ps.map λp=>p.2.2
 |.aZ _ rs=>rs
 |.sd _ xs ys=>xs++ys
 |.call f args|.dP f args=>f::args
 |.more _ args=>args
 |.eff _ args=>args
 |.take t=>[.t t]
 |.iR _ x y|.yn _ _ x y|.FB _ _ _ x y=>[x,y]
 |.slc _ x lo hi mx=>x::(lo.toList++(hi.toList++mx.toList))
 |.Fg x lo hi=>x::(lo.toList++hi.toList)
def RX.eG:RX->Bool
 |.box _|.store .. |.stn .. |.append .. |.take _|.eff .. =>false
 |_=>true
def RX.looks:RX->Bool
 |.load .. |.lod .. |.box _|.store .. |.stn .. |.eff .. =>true
 |_=>false
def RX.ky:RX->Bool
 |.box _|.store .. |.stn .. |.eff .. =>false
 |_=>true
def Da:RX->RX->Bool
 |.lod b _ _ _,.stn c _ _ _=>Nat.ble b c
 |_,_=>false
def RX.tO(v:AV):RX->Prop
 |.lod b _ _ _=>Hf b v=true
 |_=>True
def RX.nw(k:Nat):RX->Bool
 |.append _ (.t j) _|.take j=>Nat.beq j k
 |_=>false
def RX.Hs:RX->Bool
 |.box _=>true
 |_=>false
def ROp.reads(r:ROp):List Nat:=(match r.guard with|some (g,_)=>[g]|none=>[])++slotsOf r.rx.bd
def ROp.writes(r:ROp):List Nat:=(match r.dst with|some d=>[d]|none=>[])++(match r.rx with|.append _ (.t k) _|.take k=>[k]|_=>[])
def apart:List Nat->List Nat->Bool
 |[],_=>true
 |x::xs,ys=>!(ys.contains x)&&apart xs ys
def indep(x y:ROp):Bool:=
 (apart x.writes (y.reads++y.writes)&&apart y.writes x.reads)&&
 ((x.rx.ky&&(y.rx.ky||(y.rx.Hs||(!x.rx.looks||Da x.rx y.rx))))||(y.rx.ky&&!y.rx.looks))
theorem apart_spec:∀{xs ys:List Nat},apart xs ys=true->∀k,k∈xs->k∉ys
 |[],_,_,k,hk=>by cases hk
 |x::xs,ys,h,k,hk=>by
  simp only[apart,zD,zc,List.contains_eq_mem,decide_eq_false_iff_not] at h;rcases zI.1 hk with rfl|hk
  .exact h.1
  .exact apart_spec h.2 k hk
theorem ei:∀{os:List Opd} {o:Opd} {k:Nat},o∈os->k∈o.ck->k∈slotsOf os
 |_::os,o,k,h,hk=>by
  simp only[slotsOf,zZ];rcases zI.1 h with rfl|h
  .exact .inl hk
  .exact .inr (ei h hk)
theorem dA{ev ev':Opd->AV}:∀{os:List Opd},(∀o∈os,ev o=ev' o)->evs ev os=evs ev' os
 |[],_=>rfl
 |o::os,h=>by rw[evs,evs,h o (by simp),dA λx hx=>h x (by simp[hx])]
theorem rL{ev ev':Opd->AV}:∀{ps:List (Nat×Nat×Opd)} {cs:List AV} {K:List AV->Prop},(∀o∈ps.map (λp=>p.2.2),ev o=ev' o)->mK ev ps cs K->mK ev' ps cs K
 |[],_,_,_,h=>h
 |(off,sz,o)::ps,cs,K,he,h=>by
  have h0:=he o (by simp)
  simp only[mK] at h|-;rw[<-h0];obtain⟨h1,h2⟩:=af.1 h;exact af.2 ⟨h1,rL (λx hx=>he x (by simp at hx|-;exact .inr hx)) h2⟩
theorem oz{ev ev':Opd->AV}{sz:Nat}:∀{os:List Opd} {K:List AV->Prop},(∀o∈os,ev o=ev' o)->dU ev sz os K->dU ev' sz os K
 |[],_,_,h=>h
 |o::os,K,he,h=>by
  have h0:=he o (by simp)
  simp only[dU] at h|-;rw[<-h0];obtain⟨h1,h2⟩:=af.1 h;exact af.2 ⟨h1,oz (λx hx=>he x (by simp[hx])) h2⟩
theorem GW{rx:RX}{ev ev':Opd->AV}{rd rd':AV->Option (List AV)}(he:∀o∈rx.bd,ev o=ev' o)(hr:rx.looks=true->∀o∈rx.bd,rx.tO (ev o)->∀cs,rd (ev o)=some cs->rd' (ev o)=some cs){K:AV->Prop}(h:rx.pK ev rd K):rx.pK ev' rd' K:=by
 cases rx<;>simp only[RX.bd,zI,yY,or_false,forall_eq_or_imp,forall_eq] at he<;>simp only[RX.pK] at h|-
 case mov o=>rw[<-he];exact h
 case pick c a b=>rw[<-he.1,<-he.2.1,<-he.2.2];exact h
 case mJ o=>rw[<-he];exact h
 case bn off o=>rw[<-he];exact h
 case idx sz x i=>rw[<-he.1,<-he.2];exact h
 case oW x i=>rw[<-he.1,<-he.2];exact h
 case fld a off n o=>rw[<-he];exact h
 case ext i o=>rw[<-he];exact h
 case len st o=>rw[<-he];exact h
 case un op o=>rw[<-he];exact h
 case conv k o=>rw[<-he];exact h
 case bin op x y=>rw[<-he.1,<-he.2];exact h
 case load agg n o=>
  rw[<-he];unfold bL at h|-;split at h
  .rename_i cs hcs;rw[hr rfl o (by simp[RX.bd]) trivial _ hcs];exact h
  .exact h.elim
 case lod bnd agg n o=>
  rw[<-he];obtain⟨h1,h⟩:=af.1 h;refine af.2 ⟨h1,?_⟩;unfold bL at h|-;split at h
  .rename_i cs hcs;rw[hr rfl o (by simp[RX.bd]) h1 _ hcs];exact h
  .exact h.elim
 case build zs ps=>exact rL he h
 case aZ sz rs=>exact oz he h
 case mk sz z l c=>rw[<-he.1,<-he.2];exact h
 case iR mx x y=>rw[<-he.1,<-he.2];exact h
 case yn ln sz x i=>rw[<-he.1,<-he.2];exact h
 case FB agg ln sz x i=>rw[<-he.1,<-he.2];exact h
 case slc sz x lo hi mx=>
  have e1:lo.map ev=lo.map ev':=by cases lo with|none=>rfl|some o=>simp only[zM];rw[he.2 o (by simp)]
  have e2:hi.map ev=hi.map ev':=by cases hi with|none=>rfl|some o=>simp only[zM];rw[he.2 o (by simp)]
  have e3:mx.map ev=mx.map ev':=by cases mx with|none=>rfl|some o=>simp only[zM];rw[he.2 o (by simp)]
  rw[<-he.1,<-e1,<-e2,<-e3];exact h
 case Fg x lo hi=>
  have e1:lo.map ev=lo.map ev':=by cases lo with|none=>rfl|some o=>simp only[zM];rw[he.2 o (by simp)]
  have e2:hi.map ev=hi.map ev':=by cases hi with|none=>rfl|some o=>simp only[zM];rw[he.2 o (by simp)]
  rw[<-he.1,<-e1,<-e2];exact h
 case more g args=>rw[<-dA he];exact h
 case sd f xs ys=>rw[<-dA λo ho=>he o (ZC _ ho),<-dA λo ho=>he o (ZW _ ho)];exact h
theorem oX{ev:Opd->AV}:∀{ps:List (Nat×Nat×Opd)} {cs:List AV} {K K':List AV->Prop},(∀x,K x->K' x)->mK ev ps cs K->mK ev ps cs K'
 |[],_,_,_,hk,h=>hk _ h
 |(_,_,_)::_,_,_,_,hk,h=>af.2 ⟨(af.1 h).1,oX hk (af.1 h).2⟩
theorem BH{ev:Opd->AV}:∀{ps:List (Nat×Nat×Opd)} {cs:List AV} {K:List AV->Prop},mK ev ps cs K->∃r,mK ev ps cs (λx=>x=r)/\K r
 |[],cs,_,h=>⟨cs,rfl,h⟩
 |(_,_,_)::_,_,_,h=>let ⟨r,h1,h2⟩:=BH (af.1 h).2;⟨r,af.2 ⟨(af.1 h).1,h1⟩,h2⟩
theorem hU{ev:Opd->AV}{sz:Nat}:∀{os:List Opd} {K K':List AV->Prop},(∀x,K x->K' x)->dU ev sz os K->dU ev sz os K'
 |[],_,_,hk,h=>hk _ h
 |_::_,_,_,hk,h=>af.2 ⟨(af.1 h).1,hU (λ_ hx=>hk _ hx) (af.1 h).2⟩
theorem uo{ev:Opd->AV}{sz:Nat}:∀{os:List Opd} {K:List AV->Prop},dU ev sz os K->∃r,dU ev sz os (λx=>x=r)/\K r
 |[],_,h=>⟨[],rfl,h⟩
 |o::_,_,h=>let ⟨r,h1,h2⟩:=uo (af.1 h).2;⟨(ev o).norm::r,af.2 ⟨(af.1 h).1,hU (λx hx=>by rw[hx]) h1⟩,h2⟩
theorem pA{rx:RX}{ev:Opd->AV}{rd:AV->Option (List AV)}{K K':AV->Prop}(hk:∀x,K x->K' x)(h:rx.pK ev rd K):rx.pK ev rd K':=by
 cases rx<;>simp only[RX.pK] at h|-
 case mov o=>exact hk _ h
 case pick c a b=>
  unfold vW at h|-;split at h
  .exact ⟨λe=>hk _ (h.1 e),λe=>hk _ (h.2 e)⟩
  .exact h
 case mJ o=>unfold tF at h|-;split at h<;>first|exact hk _ h|exact h
 case bn off o=>exact af.2 ⟨(af.1 h).1,hk _ (af.1 h).2⟩
 case idx sz x i=>
  unfold FC at h|-;split at h
  .obtain ⟨y,h1,h2⟩:=h;exact⟨y,h1,hk _ h2⟩
  .exact ⟨h.1,hk _ h.2⟩
  .exact h
 case oW x i=>
  unfold wB at h|-;split at h
  .obtain ⟨y,h1,h2⟩:=h;exact⟨y,h1,hk _ h2⟩
  .exact h
 case fld agg off n o=>
  unfold HY at h|-;split at h
  .split at h
   .exact af.2 ⟨(af.1 h).1,hk _ (af.1 h).2⟩
   .split at h<;>first|exact hk _ h|exact h
  .exact h
 case ext i o=>
  unfold H0 at h|-;split at h
  .split at h<;>first|exact hk _ h|exact h
  .exact h
 case len st o=>unfold Fu at h|-;split at h<;>first|exact hk _ h|exact h
 case un op o=>unfold unK at h|-;split at h<;>first|exact hk _ h|exact h
 case conv k o=>unfold wQ at h|-;split at h<;>first|exact hk _ h|exact h
 case bin op x y=>
  unfold y7 at h|-;split at h
  .refine af.2 ⟨(af.1 h).1,?_⟩;have h:=(af.1 h).2;split at h<;>first|exact hk _ h|exact⟨h.1,hk _ h.2⟩|exact h
  .split at h<;>first|exact hk _ h|exact⟨h.1,hk _ h.2⟩|exact h
  .exact h
 case load agg n o=>
  unfold bL at h|-;split at h
  .split at h
   .exact af.2 ⟨(af.1 h).1,hk _ (af.1 h).2⟩
   .split at h<;>first|exact hk _ h|exact h
  .exact h
 case lod bnd agg n o=>
  obtain⟨h0,h⟩:=af.1 h;refine af.2 ⟨h0,?_⟩;unfold bL at h|-;split at h
  .split at h
   .exact af.2 ⟨(af.1 h).1,hk _ (af.1 h).2⟩
   .split at h<;>first|exact hk _ h|exact h
  .exact h
 case build zs ps=>exact oX (λx hx=>hk _ hx) h
 case aZ sz rs=>exact hU (λx hx=>hk _ hx) h
 case mk sz z l c=>unfold mkK at h|-;split at h<;>first|exact⟨h.1,hk _ h.2⟩|exact h
 case iR mx x y=>
  unfold mmK at h|-;split at h
  .exact af.2 ⟨(af.1 h).1,hk _ (af.1 h).2⟩
  .exact h
 case yn ln sz x i=>
  unfold wC at h|-;split at h
  .exact af.2 ⟨(af.1 h).1,(af.1 h).2.1,hk _ (af.1 h).2.2⟩
  .exact h
 case FB agg ln sz x i=>
  unfold Bw at h|-;split at h
  .refine ⟨h.1,?_⟩;have h:=h.2;split at h
   .exact af.2 ⟨(af.1 h).1,hk _ (af.1 h).2⟩
   .obtain ⟨c,h1,h2⟩:=h;exact⟨c,h1,hk _ h2⟩
  .exact h
 case slc sz x lo hi mx=>
  unfold CN at h|-;split at h
  .refine bW (λa h=>bW (λb h=>?_) h) h;split at h
   .exact ⟨h.1,hk _ h.2⟩
   .exact bW (λm h=>⟨h.1,hk _ h.2⟩) h
  .refine bW (λa h=>bW (λb h=>?_) h) h;split at h
   .exact ⟨h.1,hk _ h.2⟩
   .exact bW (λm h=>⟨h.1,hk _ h.2⟩) h
  .exact h
 case Fg x lo hi=>
  unfold Ar at h|-;split at h
  .exact bW (λa h=>bW (λb h=>⟨h.1,hk _ h.2⟩) h) h
  .exact h
 case more g args=>exact C7 hk h
 case sd f xs ys=>exact hk _ h
theorem Lk{rx:RX}{ev:Opd->AV}{rd:AV->Option (List AV)}{K:AV->Prop}(h:rx.pK ev rd K):∃r,rx.pK ev rd (λx=>x=r)/\K r:=by
 cases rx<;>simp only[RX.pK] at h|-
 case mov o=>exact⟨_,rfl,h⟩
 case pick c a b=>
  unfold vW at h|-;split at h
  .rename_i t _
   cases t with
   |true=>exact⟨_,⟨λ_=>rfl,(λe=>by cases e)⟩,h.1 rfl⟩
   |false=>exact⟨_,⟨(λe=>by cases e),λ_=>rfl⟩,h.2 rfl⟩
  .exact h.elim
 case mJ o=>unfold tF at h|-;split at h<;>first|exact⟨_,rfl,h⟩|exact h.elim
 case bn off o=>exact⟨_,af.2 ⟨(af.1 h).1,rfl⟩,(af.1 h).2⟩
 case idx sz x i=>
  unfold FC at h|-;split at h
  .obtain ⟨y,h1,h2⟩:=h;exact⟨_,⟨y,h1,rfl⟩,h2⟩
  .exact ⟨_,⟨h.1,rfl⟩,h.2⟩
  .exact h.elim
 case oW x i=>
  unfold wB at h|-;split at h
  .obtain ⟨y,h1,h2⟩:=h;exact⟨_,⟨y,h1,rfl⟩,h2⟩
  .exact h.elim
 case fld agg off n o=>
  unfold HY at h|-;split at h
  .split at h
   .exact ⟨_,af.2 ⟨(af.1 h).1,rfl⟩,(af.1 h).2⟩
   .split at h<;>first|exact⟨_,rfl,h⟩|exact h.elim
  .exact h.elim
 case ext i o=>
  unfold H0 at h|-;split at h
  .split at h<;>first|exact⟨_,rfl,h⟩|exact h.elim
  .exact h.elim
 case len st o=>unfold Fu at h|-;split at h<;>first|exact⟨_,rfl,h⟩|exact h.elim
 case un op o=>unfold unK at h|-;split at h<;>first|exact⟨_,rfl,h⟩|exact h.elim
 case conv k o=>unfold wQ at h|-;split at h<;>first|exact⟨_,rfl,h⟩|exact h.elim
 case bin op x y=>
  unfold y7 at h|-;split at h
  .obtain ⟨h0,h⟩:=af.1 h;split at h<;>first|exact⟨_,af.2 ⟨h0,rfl⟩,h⟩|exact⟨_,af.2 ⟨h0,h.1,rfl⟩,h.2⟩|exact h.elim
  .split at h<;>first|exact⟨_,rfl,h⟩|exact⟨_,⟨h.1,rfl⟩,h.2⟩|exact h.elim
  .exact h.elim
 case load agg n o=>
  unfold bL at h|-;split at h
  .split at h
   .exact ⟨_,af.2 ⟨(af.1 h).1,rfl⟩,(af.1 h).2⟩
   .split at h<;>first|exact⟨_,rfl,h⟩|exact h.elim
  .exact h.elim
 case lod bnd agg n o=>
  obtain⟨h0,h⟩:=af.1 h
  suffices h9:∃r,bL agg n (rd (ev o)) (λx=>x=r)/\K r from h9.imp λr ⟨q1,q2⟩=>⟨af.2 ⟨h0,q1⟩,q2⟩
  unfold bL at h|-;split at h
  .split at h
   .exact ⟨_,af.2 ⟨(af.1 h).1,rfl⟩,(af.1 h).2⟩
   .split at h<;>first|exact⟨_,rfl,h⟩|exact h.elim
  .exact h.elim
 case build zs ps=>
  obtain⟨r,h1,h2⟩:=BH h;exact⟨_,oX (λx hx=>by rw[hx]) h1,h2⟩
 case aZ sz rs=>
  obtain⟨r,h1,h2⟩:=uo h;exact⟨_,hU (λx hx=>by rw[hx]) h1,h2⟩
 case mk sz z l c=>unfold mkK at h|-;split at h<;>first|exact⟨_,⟨h.1,rfl⟩,h.2⟩|exact h.elim
 case iR mx x y=>
  unfold mmK at h|-;split at h
  .exact ⟨_,af.2 ⟨(af.1 h).1,rfl⟩,(af.1 h).2⟩
  .exact h.elim
 case yn ln sz x i=>
  unfold wC at h|-;split at h
  .exact ⟨_,af.2 ⟨(af.1 h).1,(af.1 h).2.1,rfl⟩,(af.1 h).2.2⟩
  .exact h.elim
 case FB agg ln sz x i=>
  unfold Bw at h|-;split at h
  .obtain ⟨h0,h⟩:=h;split at h
   .exact ⟨_,⟨h0,af.2 ⟨(af.1 h).1,rfl⟩⟩,(af.1 h).2⟩
   .obtain ⟨c,h1,h2⟩:=h;exact⟨_,⟨h0,c,h1,rfl⟩,h2⟩
  .exact h.elim
 case slc sz x lo hi mx=>
  unfold CN at h|-;split at h
  .obtain ⟨a,ha,h⟩:=dI h;obtain⟨b,hb,h⟩:=dI h;split at h
   .exact ⟨_,ha _ (hb _ ⟨h.1,rfl⟩),h.2⟩
   .obtain ⟨m,hm,h⟩:=dI h;exact⟨_,ha _ (hb _ (hm _ ⟨h.1,rfl⟩)),h.2⟩
  .obtain ⟨a,ha,h⟩:=dI h;obtain⟨b,hb,h⟩:=dI h;split at h
   .exact ⟨_,ha _ (hb _ ⟨h.1,rfl⟩),h.2⟩
   .obtain ⟨m,hm,h⟩:=dI h;exact⟨_,ha _ (hb _ (hm _ ⟨h.1,rfl⟩)),h.2⟩
  .exact h.elim
 case Fg x lo hi=>
  unfold Ar at h|-;split at h
  .obtain ⟨a,ha,h⟩:=dI h;obtain⟨b,hb,h⟩:=dI h;exact⟨_,ha _ (hb _ ⟨h.1,rfl⟩),h.2⟩
  .exact h.elim
 case more g args=>exact nk h
 case sd f xs ys=>exact⟨_,rfl,h⟩
 all_goals exact h.elim
def RX.qK(P:Program)(rx:RX)(ev:Opd->AV)(rd:AV->Option (List AV))(K:AV->Prop):Prop:=
 match rx with
 |.call f args=>fp P (ev f) (evs ev args) K
 |.dP f args=>Cb P (ev f)/\fp P (ev f) (evs ev args) K
 |rx=>rx.pK ev rd K
theorem Eg{P:Program}{rx:RX}(h:∀f args,rx≠.call f args)(h':∀f args,rx≠.dP f args)(ev:Opd->AV)(rd:AV->Option (List AV))(K:AV->Prop):rx.qK P ev rd K=rx.pK ev rd K:=by
 cases rx<;>first|rfl|exact absurd rfl (h _ _)|exact absurd rfl (h' _ _)
theorem bA{P:Program}{rx:RX}(hp:rx.eG=true){s:St}{d:Option Nat}{K:St->Prop}:rx.run P true s d K↔rx.qK P s.ev s.rd λv=>K (s.put d v):=by
 cases rx<;>first|exact Iff.rfl|(simp[RX.eG] at hp)
theorem nd{P:Program}{rx:RX}{ev ev':Opd->AV}{rd rd':AV->Option (List AV)}(he:∀o∈rx.bd,ev o=ev' o)(hr:rx.looks=true->∀o∈rx.bd,rx.tO (ev o)->∀cs,rd (ev o)=some cs->rd' (ev o)=some cs){K:AV->Prop}(h:rx.qK P ev rd K):rx.qK P ev' rd' K:=by
 cases rx
 case call f args=>
  simp only[RX.bd,zI,forall_eq_or_imp] at he;simp only[RX.qK] at h|-;rw[<-he.1,<-dA he.2];exact h
 case dP f args=>
  simp only[RX.bd,zI,forall_eq_or_imp] at he;simp only[RX.qK] at h|-;rw[<-he.1,<-dA he.2];exact h
 all_goals (rw[Eg (by simp) (by simp)] at h|-;exact GW he hr h)
theorem lT{P:Program}{rx:RX}{ev:Opd->AV}{rd:AV->Option (List AV)}{K K':AV->Prop}(hk:∀x,K x->K' x)(h:rx.qK P ev rd K):rx.qK P ev rd K':=by
 cases rx
 case call f args=>
  simp only[RX.qK] at h|-;unfold fp at h|-;split at h
  .obtain ⟨r,h1,h2⟩:=h;exact⟨r,h1,hk _ h2⟩
  .exact h
 case dP f args=>
  simp only[RX.qK] at h|-;refine⟨h.1,?_⟩;have h:=h.2;unfold fp at h|-;split at h
  .obtain ⟨r,h1,h2⟩:=h;exact⟨r,h1,hk _ h2⟩
  .exact h
 all_goals (rw[Eg (by simp) (by simp)] at h|-;exact pA hk h)
theorem AQ{P:Program}{rx:RX}{ev:Opd->AV}{rd:AV->Option (List AV)}{K:AV->Prop}(h:rx.qK P ev rd K):∃r,rx.qK P ev rd (λx=>x=r)/\K r:=by
 cases rx
 case call f args=>
  simp only[RX.qK] at h|-;unfold fp at h|-;split at h
  .obtain ⟨r,h1,h2⟩:=h;exact⟨r,⟨r,h1,rfl⟩,h2⟩
  .exact h.elim
 case dP f args=>
  simp only[RX.qK] at h|-;obtain⟨h0,h⟩:=h;unfold fp at h|-;split at h
  .obtain ⟨r,h1,h2⟩:=h;exact⟨r,⟨h0,r,h1,rfl⟩,h2⟩
  .exact h.elim
 all_goals (rw[Eg (by simp) (by simp)] at h;obtain⟨r,h1,h2⟩:=Lk h;exact⟨r,by rw[Eg (by simp) (by simp)];exact h1,h2⟩)
theorem gh{a b:Nat}(h:a<b):Nat.blt a b=true:=by rw[Nat.blt_eq];exact h
theorem cZ{a b:Nat}(h:¬a<b):Nat.blt a b=false:=by
 cases hb:Nat.blt a b with
 |false=>rfl
 |true=>rw[Nat.blt_eq] at hb;exact absurd hb h
theorem lC(a:Nat):Nat.beq a a=true:=by simp
theorem rM:∀(e:List (Nat×AV)) {j k:Nat} (x y:AV),j≠k->aM (aM e j x) k y=aM (aM e k y) j x
 |[],j,k,x,y,h=>by
  have h1:Nat.beq j k=false:=cu h;have h2:Nat.beq k j=false:=cu (Ne.symm h)
  by_cases h3:k<j
  .simp only[aM,h1,h2,gh h3,cZ (show¬j<k by omega)]
  .simp only[aM,h1,h2,cZ h3,gh (show j<k by omega)]
 |(t,u)::r,j,k,x,y,h=>by
  have h1:Nat.beq j k=false:=cu h;have h2:Nat.beq k j=false:=cu (Ne.symm h);have ih:=rM r x y h
  by_cases htj:t=j
  .subst htj
   by_cases h3:k<t
   .simp only[aM,lC,h1,h2,gh h3,cZ (show¬t<k by omega)]
   .simp only[aM,lC,h1,cZ h3]
  .by_cases htk:t=k
   .subst htk
    by_cases h3:j<t
    .simp only[aM,lC,h1,h2,gh h3,cZ (show¬t<j by omega)]
    .simp only[aM,lC,h2,cZ h3]
   .have b1:Nat.beq t j=false:=cu htj;have b2:Nat.beq t k=false:=cu htk
    by_cases h3:j<t
    .by_cases h4:k<t
     .by_cases h5:k<j
      .simp only[aM,b1,b2,h1,h2,gh h3,gh h4,gh h5,cZ (show¬j<k by omega)]
      .simp only[aM,b1,b2,h1,h2,gh h3,gh h4,cZ h5,gh (show j<k by omega)]
     .simp only[aM,b1,b2,h1,gh h3,cZ h4,cZ (show¬k<j by omega)]
    .by_cases h4:k<t
     .simp only[aM,b1,b2,h2,cZ h3,gh h4,cZ (show¬j<k by omega)]
     .simp only[aM,b1,b2,cZ h3,cZ h4,ih]
theorem St.put_comm(s:St){j k:Nat}(x y:AV)(h:j≠k):(s.put (some j) x).put (some k) y=(s.put (some k) y).put (some j) x:=by
 simp only[St.put,rM _ _ _ h]
theorem St.fG(s:St)(k:Nat)(v:AV){t:Nat}(h:t≠k):(s.put (some k) v).get t=s.get t:=by
 rw[St.get_at,St.get_at,St.ef,if_neg (by simpa using h)]
theorem St.yr(s:St)(k:Nat)(v:AV){o:Opd}(h:k∉o.ck):(s.put (some k) v).ev o=s.ev o:=by
 cases o with
 |t j=>simp only[St.ev];rw[St.fG];simpa[Opd.ck,eq_comm] using h
 |c x=>rfl
theorem St.qo(s:St)(d:Option Nat)(v:AV):(s.put d v).rd=s.rd:=by
 funext x
 cases d<;>(cases x<;>rfl)
theorem AA{P:Program}{rx:RX}{d:Option Nat}{k:Nat}(v:AV)(h1:k∉slotsOf rx.bd)(h2:d≠some k){s:St}{K:St->Prop}:
  rx.run P true (s.put (some k) v) d K↔rx.run P true s d (λs'=>K (s'.put (some k) v)):=by
 have hev:∀o∈rx.bd,(s.put (some k) v).ev o=s.ev o:=λo ho=>St.yr s k v λhk=>h1 (ei ho hk)
 have hput:∀y,(s.put (some k) v).put d y=(s.put d y).put (some k) v:=λy=>by
  cases d with
  |none=>rfl
  |some j=>exact St.put_comm s v y (λe=>h2 (by rw[e]))
 cases hp:rx.eG with
 |true=>
  rw[bA hp,bA hp];constructor
  .intro h;exact lT (λy hy=>by rw[<-hput];exact hy) (nd hev (λ_ o _ _ cs e=>by rw[<-St.qo s (some k) v];exact e) h)
  .intro h;refine nd (λo ho=>(hev o ho).symm) (λ_ o _ _ cs e=>by rw[St.qo];exact e) (lT (λy hy=>?_) h)
   rw[hput];exact hy
 |false=>
  cases rx<;>simp[RX.eG] at hp
  case eff e args=>exact Iff.rfl
  case take t=>
   have htk:t≠k:=λe=>h1 (by simp[RX.bd,slotsOf,Opd.ck,e])
   simp only[RX.run,sb,St.fG s k v htk];cases s.get t<;>try (simp only[hput];done)
   rename_i c l
   cases c with
   |no=>simp only[hput]
   |full=>simp only[hput]
   |own z'=>
    cases d with
    |none=>exact Iff.rfl
    |some d=>
     have hdk:d≠k:=λe=>h2 (by rw[e])
     have:∀x y u,((((s.put (some k) v).put (some d) x).put (some t) y).put (some d) u)=((((s.put (some d) x).put (some t) y).put (some d) u).put (some k) v):=λx y u=>by
      rw[St.put_comm s v x (Ne.symm hdk),St.put_comm _ v y (Ne.symm htk),St.put_comm _ v u (Ne.symm hdk)]
     simp only[this]
  case box o=>
   simp only[RX.run,F3];rw[hev o (by simp[RX.bd])]
   have:∀y cs,(((s.put (some k) v).gj cs).put d y)=(((s.gj cs).put d y).put (some k) v):=λy cs=>by
    cases d with
    |none=>rfl
    |some j=>exact St.put_comm (s.gj cs) v y (λe=>h2 (by rw[e]))
   have hb:(s.put (some k) v).bs=s.bs:=rfl;rw[hb,this]
  case store n p x=>
   simp only[RX.run,bQ];rw[hev p (by simp[RX.bd]),hev x (by simp[RX.bd])]
   cases s.ev p<;>exact Iff.rfl
  case stn bnd n p x=>
   simp only[RX.run,ve,bQ];rw[hev p (by simp[RX.bd]),hev x (by simp[RX.bd])]
   cases s.ev p<;>exact Iff.rfl
  case append z o x=>
   simp only[RX.run,fH];rw[hev x (by simp[RX.bd])]
   cases s.ev x<;>try exact Iff.rfl
   rename_i c xs
   cases o with
   |t t=>
    have htk:t≠k:=λe=>h1 (by simp[RX.bd,slotsOf,Opd.ck,e])
    simp only[St.fG s k v htk];cases s.get t<;>try exact Iff.rfl
    rename_i c l
    cases c with
    |no=>exact Iff.rfl
    |full=>simp only[hput]
    |own z'=>
     have:∀y,(((s.put (some k) v).put (some t) (.sl .no l)).put d y)=(((s.put (some t) (.sl .no l)).put d y).put (some k) v):=λy=>by
      rw[St.put_comm s v _ (Ne.symm htk)]
      cases d with
      |none=>rfl
      |some j=>exact St.put_comm _ v y (λe=>h2 (by rw[e]))
     simp only[this]
   |c y=>
    cases y<;>try exact Iff.rfl
    rename_i c l
    cases c with
    |full=>simp only[hput]
    |_=>exact Iff.rfl
theorem xK{P:Program}{rx:RX}{d:Option Nat}{s:St}{K K':St->Prop}{dr:Bool}(hk:∀x,K x->K' x)(h:rx.run P dr s d K):rx.run P dr s d K':=by
 cases rx
 case mov o=>
  cases dr with
  |true=>exact hk _ h
  |false=>
   simp only[RX.run,sb] at h|-;split at h
   .exact hk _ h
   .split at h
    .split at h
     .exact af.2 ⟨(af.1 h).1,hk _ (af.1 h).2⟩
     .exact h
    .exact hk _ h
 case take t=>
  simp only[RX.run,sb] at h|-;split at h
  .split at h
   .exact af.2 ⟨(af.1 h).1,hk _ (af.1 h).2⟩
   .exact h
  .exact hk _ h
 case dP f args=>
  refine⟨h.1,?_⟩;have h:=h.2
  cases dr with
  |true=>
   simp only at h|-;unfold fp at h|-;split at h
   .obtain ⟨r,h1,h2⟩:=h;exact⟨r,h1,hk _ h2⟩
   .exact h
  |false=>
   simp only[jx] at h|-;split at h
   .obtain ⟨Q,h1,h2⟩:=h;exact⟨Q,h1,λr bs' hq=>hk _ (h2 r bs' hq)⟩
   .obtain ⟨Q,h1,h2⟩:=h;exact⟨Q,h1,λr bs' hq=>hk _ (h2 r bs' hq)⟩
   .exact h
 case box o=>exact af.2 ⟨(af.1 h).1,hk _ (af.1 h).2⟩
 case load agg n o=>
  cases dr with
  |true=>exact pA (rx:=.load agg n o) (λx hx=>hk _ hx) h
  |false=>
   simp only[RX.run,eO] at h|-;split at h
   .split at h
    .exact hk _ h
    .exact pA (rx:=.load false n o) (ev:=λ_=>_) (λx hx=>hk _ hx) h
   .exact pA (rx:=.load _ n o) (ev:=λ_=>_) (λx hx=>hk _ hx) h
 case store n p x=>
  have hst:∀n p v,bQ n s p v K->bQ n s p v K':=λn p v h=>by
   simp only[bQ] at h|-;split at h
   .split at h
    .exact af.2 ⟨(af.1 h).1,hk _ (af.1 h).2⟩
    .exact h
   .exact h
  cases dr with
  |true=>exact hst _ _ _ h
  |false=>
   simp only[RX.run,gn] at h|-;split at h
   .split at h
    .split at h
     .exact af.2 ⟨(af.1 h).1,hk _ (af.1 h).2⟩
     .exact h
    .exact hst _ _ _ h
   .unfold nR at h|-;split at h
    .exact ⟨h.1,hk _ h.2⟩
    .exact h
   .exact hst _ _ _ h
 case stn conf n p x=>
  cases dr with
  |false=>exact h
  |true=>
   simp only[RX.run,ve,bQ] at h|-;split at h
   .refine af.2 ⟨(af.1 h).1,?_⟩;have h:=(af.1 h).2;split at h
    .exact af.2 ⟨(af.1 h).1,hk _ (af.1 h).2⟩
    .exact h
   .exact h
 case append z o x=>
  simp only[RX.run,fH] at h|-;split at h
  .split at h
   .split at h
    .exact af.2 ⟨(af.1 h).1,(af.1 h).2.1,hk _ (af.1 h).2.2⟩
    .exact ⟨h.1,hk _ h.2⟩
    .exact h
   .exact ⟨h.1,hk _ h.2⟩
   .exact h
  .exact h
 case call f args=>
  cases dr with
  |true=>exact lT (rx:=.call f args) (rd:=s.rd) (λx hx=>hk _ hx) h
  |false=>
   simp only[RX.run,jx] at h|-;split at h
   .obtain ⟨Q,h1,h2⟩:=h;exact⟨Q,h1,λr bs' hq=>hk _ (h2 r bs' hq)⟩
   .obtain ⟨Q,h1,h2⟩:=h;exact⟨Q,h1,λr bs' hq=>hk _ (h2 r bs' hq)⟩
   .exact h
 case eff e args=>
  cases dr with
  |true=>exact h
  |false=>exact FI hk h
 all_goals (simp only[RX.run] at h|-;exact pA (λx hx=>hk _ hx) h)
theorem JK{P:Program}{rx:RX}{d:Option Nat}{s:St}{K:St->Prop}(h:rx.run P true s d K):∃s1,rx.run P true s d (λx=>x=s1)/\K s1:=by
 cases hp:rx.eG with
 |true=>
  rw[bA hp] at h;obtain⟨r,h1,h2⟩:=AQ h
  exact⟨_,(bA hp).2 (lT (λx hx=>by rw[hx]) h1),h2⟩
 |false=>
  cases rx<;>simp[RX.eG] at hp
  case eff e args=>exact h.elim
  case take t=>
   simp only[RX.run,sb] at h|-;split at h
   .split at h
    .exact ⟨_,af.2 ⟨(af.1 h).1,rfl⟩,(af.1 h).2⟩
    .exact h.elim
   .exact ⟨_,rfl,h⟩
  case box o=>exact⟨_,af.2 ⟨(af.1 h).1,rfl⟩,(af.1 h).2⟩
  case store n p x=>
   simp only[RX.run,bQ] at h|-;split at h
   .split at h
    .exact ⟨_,af.2 ⟨(af.1 h).1,rfl⟩,(af.1 h).2⟩
    .exact h.elim
   .exact h.elim
  case stn conf n p x=>
   simp only[RX.run,ve,bQ] at h|-;split at h
   .have h1:=(af.1 h).1;have h:=(af.1 h).2;split at h
    .exact ⟨_,af.2 ⟨h1,af.2 ⟨(af.1 h).1,rfl⟩⟩,(af.1 h).2⟩
    .exact h.elim
   .exact h.elim
  case append z o x=>
   simp only[RX.run,fH] at h|-;split at h
   .split at h
    .split at h
     .exact ⟨_,af.2 ⟨(af.1 h).1,(af.1 h).2.1,rfl⟩,(af.1 h).2.2⟩
     .exact ⟨_,⟨h.1,rfl⟩,h.2⟩
     .exact h.elim
    .exact ⟨_,⟨h.1,rfl⟩,h.2⟩
    .exact h.elim
   .exact h.elim
theorem GN{P:Program}{rx:RX}{d:Option Nat}{s s1:St}(h:rx.run P true s d (λx=>x=s1)){k:Nat}(h1:d≠some k)(h2:rx.nw k=false):s1.get k=s.get k:=by
 have hput:∀(s:St) y,(s.put d y).get k=s.get k:=λs y=>by
  cases d with
  |none=>rfl
  |some j=>exact St.fG s j y (λe=>h1 (by rw[e]))
 cases hp:rx.eG with
 |true=>
  rw[bA hp] at h;obtain⟨r,_,rfl⟩:=AQ h
  exact hput s r
 |false=>
  cases rx<;>simp[RX.eG] at hp
  case eff e args=>exact h.elim
  case take t=>
   have htk:k≠t:=λe=>by subst e;simp[RX.nw] at h2
   simp only[RX.run,sb] at h;split at h
   .split at h
    .rename_i d;have hdk:k≠d:=λe=>h1 (by rw[e])
     have:=(af.1 h).2;subst this;rw[St.fG _ _ _ hdk,St.fG _ _ _ htk,St.fG _ _ _ hdk]
    .exact h.elim
   .subst h;exact hput _ _
  case box o=>
   have:=(af.1 h).2;subst this;exact hput _ _
  case store n p x=>
   simp only[RX.run,bQ] at h;split at h
   .split at h
    .have:=(af.1 h).2;subst this;rfl
    .exact h.elim
   .exact h.elim
  case stn conf n p x=>
   simp only[RX.run,ve,bQ] at h;split at h
   .have h:=(af.1 h).2;split at h
    .have:=(af.1 h).2;subst this;rfl
    .exact h.elim
   .exact h.elim
  case append z o x=>
   simp only[RX.run,fH] at h;split at h
   .split at h
    .rename_i t;have htk:k≠t:=λe=>by subst e;simp[RX.nw] at h2
     split at h
     .have:=(af.1 h).2.2;subst this;rw[hput,St.fG _ _ _ htk]
     .have:=h.2;subst this;exact hput _ _
     .exact h.elim
    .have:=h.2;subst this;exact hput _ _
    .exact h.elim
   .exact h.elim
def St.oa:St->List (Nat×AV)->St
 |s,[]=>s
 |s,(k,v)::r=>(s.put (some k) v).oa r
theorem St.IX(s:St):∀ps:List (Nat×AV),(s.oa ps).bs=s.bs:=λps=>by
 induction ps generalizing s with
 |nil=>rfl
 |cons p ps ih=>obtain⟨k,v⟩:=p;simp only[St.oa];rw[ih];rfl
theorem yt{s s':St}{o:Opd}(h:∀k∈o.ck,s'.get k=s.get k):s'.ev o=s.ev o:=by
 cases o with
 |t k=>simp only[St.ev];rw[h k (by simp[Opd.ck])]
 |c x=>rfl
theorem GM{P:Program}{rx:RX}(hp:rx.ky=true){d:Option Nat}{s s1:St}(h:rx.run P true s d (λx=>x=s1)):
  ∃ps,s1=s.oa ps/\(∀p∈ps,d=some p.1\/rx.nw p.1=true)/\∀s',(∀k∈slotsOf rx.bd,s'.get k=s.get k)->(rx.looks=true->∀o∈rx.bd,rx.tO (s.ev o)->∀cs,s.rd (s.ev o)=some cs->s'.rd (s.ev o)=some cs)->rx.run P true s' d (λx=>x=s'.oa ps):=by
 have hput:∀v,∃ps,(∀s:St,s.put d v=s.oa ps)/\∀p∈ps,d=some p.1:=λv=>by
  cases d with
  |none=>exact⟨[],λs=>rfl,λp hp=>by cases hp⟩
  |some k=>exact⟨[(k,v)],λs=>rfl,λp hp=>by simp at hp;rw[hp]⟩
 cases hpp:rx.eG with
 |true=>
  rw[bA hpp] at h;obtain⟨v,h1,h2⟩:=AQ h;obtain⟨ps,q1,q2⟩:=hput v;refine⟨ps,by rw[<-h2,q1],λp hp=>.inl (q2 p hp),λs' hr hl=>?_⟩
  rw[bA hpp];refine lT (λx hx=>by rw[hx,q1]) (nd (λo ho=>(yt λk hk=>?_).symm) hl h1)
  exact hr k (ei ho hk)
 |false=>
  cases rx<;>simp[RX.eG,RX.ky] at hpp hp
  case take t=>
   simp only[RX.run,sb] at h|-;split at h
   .rename_i z l hg;split at h
    .rename_i k;obtain⟨h1,h2⟩:=af.1 h;refine⟨[(k,.sl .no l),(t,.sl .no l),(k,.sl (.own z) l)],h2.symm,λp hp=>?_,λs' hr _=>?_⟩
     .simp only[zI,yY,or_false] at hp;rcases hp with rfl|rfl|rfl
      .exact .inl rfl
      .exact .inr (by simp[RX.nw])
      .exact .inl rfl
     .have:=hr t (by simp[RX.bd,slotsOf,Opd.ck])
      rw[this,hg];exact af.2 ⟨h1,rfl⟩
    .exact h.elim
   .rename_i hnot;obtain⟨ps,q1,q2⟩:=hput (s.get t);refine⟨ps,by rw[<-h,q1],λp hp=>.inl (q2 p hp),λs' hr _=>?_⟩
    have:=hr t (by simp[RX.bd,slotsOf,Opd.ck])
    rw[this];split
    .rename_i z l hg;exact absurd hg (hnot z l)
    .rw [q1]
  case append z o x=>
   simp only[RX.run,fH] at h|-;have hx:∀s':St,(∀k∈slotsOf (RX.append z o x).bd,s'.get k=s.get k)->s'.ev x=s.ev x:=λs' hr=>yt λk hk=>hr k (ei (o:=x) (by simp[RX.bd]) hk)
   split at h
   .rename_i c xs hxe;split at h
    .rename_i t;split at h
     .rename_i z' l hg;obtain⟨h1,h2,h3⟩:=af.1 h;obtain⟨ps,q1,q2⟩:=hput (.sl (.own z) (l++xs));refine⟨(t,.sl .no l)::ps,by rw[<-h3,q1];rfl,λp hp=>?_,λs' hr _=>?_⟩
      .rcases zI.1 hp with rfl|hp
       .exact .inr (by simp[RX.nw])
       .exact .inl (q2 p hp)
      .rw [hx s' hr,hxe];simp only;rw[hr t (by simp[RX.bd,slotsOf,Opd.ck]),hg]
       exact af.2 ⟨h1,h2,by rw[q1];rfl⟩
     .rename_i l hg;obtain⟨ps,q1,q2⟩:=hput (.sl (.own z) (l++xs));refine⟨ps,by rw[<-h.2,q1],λp hp=>.inl (q2 p hp),λs' hr _=>?_⟩
      rw[hx s' hr,hxe];simp only;rw[hr t (by simp[RX.bd,slotsOf,Opd.ck]),hg]
      exact⟨h.1,by rw[q1]⟩
     .exact h.elim
    .rename_i l;obtain⟨ps,q1,q2⟩:=hput (.sl (.own z) (l++xs));refine⟨ps,by rw[<-h.2,q1],λp hp=>.inl (q2 p hp),λs' hr _=>?_⟩
     rw[hx s' hr,hxe];exact⟨h.1,by rw[q1]⟩
    .exact h.elim
   .exact h.elim
end Go.AM
