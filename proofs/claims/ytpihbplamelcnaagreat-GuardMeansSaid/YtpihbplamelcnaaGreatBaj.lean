/-
  Texts of this aX joined (wip/gen/bundle.py),those declarations only that are needed:AmX. By an AI agent.
-/
import Derived.Test.YtpihbplamelcnaaGreatBai
set_option linter.unusedSimpArgs false
set_option linter.unusedVariables false
namespace Go.AM
open Go.CK Go.RowKit
def Opd.cV:Opd->List Nat
 |.t k=>[k]
 |.c _=>[]
def slotsOf:List Opd->List Nat
 |[]=>[]
 |o::os=>o.cV++slotsOf os
def RX.bG:RX->List Opd
 |.mov o|.vp o|.aS _ o|.fld _ _ _ o|.ext _ o|.len _ o|.un _ o|.conv _ o|.load _ _ o|.lod _ _ _ o|.box o=>[o]
 |.pick c a b=>[c,a,b]
 |.idx _ x i|.rS x i|.bin _ x i|.mk _ _ x i|.store _ x i|.stn _ _ x i|.append _ x i=>[x,i]
 |.build _ ps=>ps.map λp=>p.2.2
 |.aE _ rs=>rs
 |.yk _ xs ys=>xs++ys
 |.call f args|.fh f args=>f::args
 |.more _ args=>args
 |.eff _ args=>args
 |.take t=>[.t t]
 |.fD _ x y|.oE _ _ x y|.Km _ _ _ x y=>[x,y]
 |.slc _ x lo hi mx=>x::(lo.toList++(hi.toList++mx.toList))
 |.JQ x lo hi=>x::(lo.toList++hi.toList)
def RX.fz:RX->Bool
 |.box _|.store .. |.stn .. |.append .. |.take _|.eff .. =>false
 |_=>true
def RX.looks:RX->Bool
 |.load .. |.lod .. |.box _|.store .. |.stn .. |.eff .. =>true
 |_=>false
def RX.mb:RX->Bool
 |.box _|.store .. |.stn .. |.eff .. =>false
 |_=>true
def HG:RX->RX->Bool
 |.lod b _ _ _,.stn c _ _ _=>Nat.ble b c
 |_,_=>false
def RX.yp(v:AV):RX->Prop
 |.lod b _ _ _=>Mi b v=true
 |_=>True
def RX.pk(k:Nat):RX->Bool
 |.append _ (.t j) _|.take j=>Nat.beq j k
 |_=>false
def RX.Mm:RX->Bool
 |.box _=>true
 |_=>false
def ROp.reads(r:ROp):List Nat:=(match r.guard with|some (g,_)=>[g]|none=>[])++slotsOf r.rx.bG
def ROp.writes(r:ROp):List Nat:=(match r.dst with|some d=>[d]|none=>[])++(match r.rx with|.append _ (.t k) _|.take k=>[k]|_=>[])
def apart:List Nat->List Nat->Bool
 |[],_=>true
 |x::xs,ys=>!(ys.contains x)&&apart xs ys
def indep(x y:ROp):Bool:=
 (apart x.writes (y.reads++y.writes)&&apart y.writes x.reads)&&
 ((x.rx.mb&&(y.rx.mb||(y.rx.Mm||(!x.rx.looks||HG x.rx y.rx))))||(y.rx.mb&&!y.rx.looks))
theorem apart_spec:∀{xs ys:List Nat},apart xs ys=true->∀k,k∈xs->k∉ys
 |[],_,_,k,hk=>by cases hk
 |x::xs,ys,h,k,hk=>by
  simp only[apart,zD,zb,List.contains_eq_mem,decide_eq_false_iff_not] at h;rcases zI.1 hk with rfl|hk
  .exact h.1
  .exact apart_spec h.2 k hk
theorem eZ:∀{os:List Opd} {o:Opd} {k:Nat},o∈os->k∈o.cV->k∈slotsOf os
 |_::os,o,k,h,hk=>by
  simp only[slotsOf,zY];rcases zI.1 h with rfl|h
  .exact .inl hk
  .exact .inr (eZ h hk)
theorem eo{ev ev':Opd->AV}:∀{os:List Opd},(∀o∈os,ev o=ev' o)->evs ev os=evs ev' os
 |[],_=>rfl
 |o::os,h=>by rw[evs,evs,h o (by simp),eo λx hx=>h x (by simp[hx])]
theorem vw{ev ev':Opd->AV}:∀{ps:List (Nat×Nat×Opd)} {cs:List AV} {K:List AV->Prop},(∀o∈ps.map (λp=>p.2.2),ev o=ev' o)->oq ev ps cs K->oq ev' ps cs K
 |[],_,_,_,h=>h
 |(off,sz,o)::ps,cs,K,he,h=>by
  have h0:=he o (by simp)
  simp only[oq] at h|-;rw[<-h0];obtain⟨h1,h2⟩:=af.1 h;exact af.2 ⟨h1,vw (λx hx=>he x (by simp at hx|-;exact .inr hx)) h2⟩
theorem qP{ev ev':Opd->AV}{sz:Nat}:∀{os:List Opd} {K:List AV->Prop},(∀o∈os,ev o=ev' o)->eU ev sz os K->eU ev' sz os K
 |[],_,_,h=>h
 |o::os,K,he,h=>by
  have h0:=he o (by simp)
  simp only[eU] at h|-;rw[<-h0];obtain⟨h1,h2⟩:=af.1 h;exact af.2 ⟨h1,qP (λx hx=>he x (by simp[hx])) h2⟩
theorem LU{rx:RX}{ev ev':Opd->AV}{rd rd':AV->Option (List AV)}(he:∀o∈rx.bG,ev o=ev' o)(hr:rx.looks=true->∀o∈rx.bG,rx.yp (ev o)->∀cs,rd (ev o)=some cs->rd' (ev o)=some cs){K:AV->Prop}(h:rx.pK ev rd K):rx.pK ev' rd' K:=by
 cases rx<;>simp only[RX.bG,zI,ye,or_false,forall_eq_or_imp,forall_eq] at he<;>simp only[RX.pK] at h|-
 case mov o=>rw[<-he];exact h
 case pick c a b=>rw[<-he.1,<-he.2.1,<-he.2.2];exact h
 case vp o=>rw[<-he];exact h
 case aS off o=>rw[<-he];exact h
 case idx sz x i=>rw[<-he.1,<-he.2];exact h
 case rS x i=>rw[<-he.1,<-he.2];exact h
 case fld a off n o=>rw[<-he];exact h
 case ext i o=>rw[<-he];exact h
 case len st o=>rw[<-he];exact h
 case un op o=>rw[<-he];exact h
 case conv k o=>rw[<-he];exact h
 case bin op x y=>rw[<-he.1,<-he.2];exact h
 case load agg n o=>
  rw[<-he];unfold cB at h|-;split at h
  .rename_i cs hcs;rw[hr rfl o (by simp[RX.bG]) trivial _ hcs];exact h
  .exact h.elim
 case lod bnd agg n o=>
  rw[<-he];obtain⟨h1,h⟩:=af.1 h;refine af.2 ⟨h1,?_⟩;unfold cB at h|-;split at h
  .rename_i cs hcs;rw[hr rfl o (by simp[RX.bG]) h1 _ hcs];exact h
  .exact h.elim
 case build zs ps=>exact vw he h
 case aE sz rs=>exact qP he h
 case mk sz z l c=>rw[<-he.1,<-he.2];exact h
 case fD mx x y=>rw[<-he.1,<-he.2];exact h
 case oE ln sz x i=>rw[<-he.1,<-he.2];exact h
 case Km agg ln sz x i=>rw[<-he.1,<-he.2];exact h
 case slc sz x lo hi mx=>
  have e1:lo.map ev=lo.map ev':=by cases lo with|none=>rfl|some o=>simp only[zM];rw[he.2 o (by simp)]
  have e2:hi.map ev=hi.map ev':=by cases hi with|none=>rfl|some o=>simp only[zM];rw[he.2 o (by simp)]
  have e3:mx.map ev=mx.map ev':=by cases mx with|none=>rfl|some o=>simp only[zM];rw[he.2 o (by simp)]
  rw[<-he.1,<-e1,<-e2,<-e3];exact h
 case JQ x lo hi=>
  have e1:lo.map ev=lo.map ev':=by cases lo with|none=>rfl|some o=>simp only[zM];rw[he.2 o (by simp)]
  have e2:hi.map ev=hi.map ev':=by cases hi with|none=>rfl|some o=>simp only[zM];rw[he.2 o (by simp)]
  rw[<-he.1,<-e1,<-e2];exact h
 case more g args=>rw[<-eo he];exact h
 case yk f xs ys=>rw[<-eo λo ho=>he o (ZB _ ho),<-eo λo ho=>he o (ZW _ ho)];exact h
theorem rU{ev:Opd->AV}:∀{ps:List (Nat×Nat×Opd)} {cs:List AV} {K K':List AV->Prop},(∀x,K x->K' x)->oq ev ps cs K->oq ev ps cs K'
 |[],_,_,_,hk,h=>hk _ h
 |(_,_,_)::_,_,_,_,hk,h=>af.2 ⟨(af.1 h).1,rU hk (af.1 h).2⟩
theorem F1{ev:Opd->AV}:∀{ps:List (Nat×Nat×Opd)} {cs:List AV} {K:List AV->Prop},oq ev ps cs K->∃r,oq ev ps cs (λx=>x=r)/\K r
 |[],cs,_,h=>⟨cs,rfl,h⟩
 |(_,_,_)::_,_,_,h=>let ⟨r,h1,h2⟩:=F1 (af.1 h).2;⟨r,af.2 ⟨(af.1 h).1,h1⟩,h2⟩
theorem jD{ev:Opd->AV}{sz:Nat}:∀{os:List Opd} {K K':List AV->Prop},(∀x,K x->K' x)->eU ev sz os K->eU ev sz os K'
 |[],_,_,hk,h=>hk _ h
 |_::_,_,_,hk,h=>af.2 ⟨(af.1 h).1,jD (λ_ hx=>hk _ hx) (af.1 h).2⟩
theorem Au{ev:Opd->AV}{sz:Nat}:∀{os:List Opd} {K:List AV->Prop},eU ev sz os K->∃r,eU ev sz os (λx=>x=r)/\K r
 |[],_,h=>⟨[],rfl,h⟩
 |o::_,_,h=>let ⟨r,h1,h2⟩:=Au (af.1 h).2;⟨(ev o).norm::r,af.2 ⟨(af.1 h).1,jD (λx hx=>by rw[hx]) h1⟩,h2⟩
theorem sS{rx:RX}{ev:Opd->AV}{rd:AV->Option (List AV)}{K K':AV->Prop}(hk:∀x,K x->K' x)(h:rx.pK ev rd K):rx.pK ev rd K':=by
 cases rx<;>simp only[RX.pK] at h|-
 case mov o=>exact hk _ h
 case pick c a b=>
  unfold B9 at h|-;split at h
  .exact ⟨λe=>hk _ (h.1 e),λe=>hk _ (h.2 e)⟩
  .exact h
 case vp o=>unfold x4 at h|-;split at h<;>first|exact hk _ h|exact h
 case aS off o=>exact af.2 ⟨(af.1 h).1,hk _ (af.1 h).2⟩
 case idx sz x i=>
  unfold Kn at h|-;split at h
  .obtain ⟨y,h1,h2⟩:=h;exact⟨y,h1,hk _ h2⟩
  .exact ⟨h.1,hk _ h.2⟩
  .exact h
 case rS x i=>
  unfold CA at h|-;split at h
  .obtain ⟨y,h1,h2⟩:=h;exact⟨y,h1,hk _ h2⟩
  .exact h
 case fld agg off n o=>
  unfold MC at h|-;split at h
  .split at h
   .exact af.2 ⟨(af.1 h).1,hk _ (af.1 h).2⟩
   .split at h<;>first|exact hk _ h|exact h
  .exact h
 case ext i o=>
  unfold MG at h|-;split at h
  .split at h<;>first|exact hk _ h|exact h
  .exact h
 case len st o=>unfold Kh at h|-;split at h<;>first|exact hk _ h|exact h
 case un op o=>unfold unK at h|-;split at h<;>first|exact hk _ h|exact h
 case conv k o=>unfold CV at h|-;split at h<;>first|exact hk _ h|exact h
 case bin op x y=>
  unfold El at h|-;split at h
  .refine af.2 ⟨(af.1 h).1,?_⟩;have h:=(af.1 h).2;split at h<;>first|exact hk _ h|exact⟨h.1,hk _ h.2⟩|exact h
  .split at h<;>first|exact hk _ h|exact⟨h.1,hk _ h.2⟩|exact h
  .exact h
 case load agg n o=>
  unfold cB at h|-;split at h
  .split at h
   .exact af.2 ⟨(af.1 h).1,hk _ (af.1 h).2⟩
   .split at h<;>first|exact hk _ h|exact h
  .exact h
 case lod bnd agg n o=>
  obtain⟨h0,h⟩:=af.1 h;refine af.2 ⟨h0,?_⟩;unfold cB at h|-;split at h
  .split at h
   .exact af.2 ⟨(af.1 h).1,hk _ (af.1 h).2⟩
   .split at h<;>first|exact hk _ h|exact h
  .exact h
 case build zs ps=>exact rU (λx hx=>hk _ hx) h
 case aE sz rs=>exact jD (λx hx=>hk _ hx) h
 case mk sz z l c=>unfold mkK at h|-;split at h<;>first|exact⟨h.1,hk _ h.2⟩|exact h
 case fD mx x y=>
  unfold mmK at h|-;split at h
  .exact af.2 ⟨(af.1 h).1,hk _ (af.1 h).2⟩
  .exact h
 case oE ln sz x i=>
  unfold CB at h|-;split at h
  .exact af.2 ⟨(af.1 h).1,(af.1 h).2.1,hk _ (af.1 h).2.2⟩
  .exact h
 case Km agg ln sz x i=>
  unfold FO at h|-;split at h
  .refine ⟨h.1,?_⟩;have h:=h.2;split at h
   .exact af.2 ⟨(af.1 h).1,hk _ (af.1 h).2⟩
   .obtain ⟨c,h1,h2⟩:=h;exact⟨c,h1,hk _ h2⟩
  .exact h
 case slc sz x lo hi mx=>
  unfold G7 at h|-;split at h
  .refine cP (λa h=>cP (λb h=>?_) h) h;split at h
   .exact ⟨h.1,hk _ h.2⟩
   .exact cP (λm h=>⟨h.1,hk _ h.2⟩) h
  .refine cP (λa h=>cP (λb h=>?_) h) h;split at h
   .exact ⟨h.1,hk _ h.2⟩
   .exact cP (λm h=>⟨h.1,hk _ h.2⟩) h
  .exact h
 case JQ x lo hi=>
  unfold EM at h|-;split at h
  .exact cP (λa h=>cP (λb h=>⟨h.1,hk _ h.2⟩) h) h
  .exact h
 case more g args=>exact HD hk h
 case yk f xs ys=>exact hk _ h
theorem Qc{rx:RX}{ev:Opd->AV}{rd:AV->Option (List AV)}{K:AV->Prop}(h:rx.pK ev rd K):∃r,rx.pK ev rd (λx=>x=r)/\K r:=by
 cases rx<;>simp only[RX.pK] at h|-
 case mov o=>exact⟨_,rfl,h⟩
 case pick c a b=>
  unfold B9 at h|-;split at h
  .rename_i t _
   cases t with
   |true=>exact⟨_,⟨λ_=>rfl,(λe=>by cases e)⟩,h.1 rfl⟩
   |false=>exact⟨_,⟨(λe=>by cases e),λ_=>rfl⟩,h.2 rfl⟩
  .exact h.elim
 case vp o=>unfold x4 at h|-;split at h<;>first|exact⟨_,rfl,h⟩|exact h.elim
 case aS off o=>exact⟨_,af.2 ⟨(af.1 h).1,rfl⟩,(af.1 h).2⟩
 case idx sz x i=>
  unfold Kn at h|-;split at h
  .obtain ⟨y,h1,h2⟩:=h;exact⟨_,⟨y,h1,rfl⟩,h2⟩
  .exact ⟨_,⟨h.1,rfl⟩,h.2⟩
  .exact h.elim
 case rS x i=>
  unfold CA at h|-;split at h
  .obtain ⟨y,h1,h2⟩:=h;exact⟨_,⟨y,h1,rfl⟩,h2⟩
  .exact h.elim
 case fld agg off n o=>
  unfold MC at h|-;split at h
  .split at h
   .exact ⟨_,af.2 ⟨(af.1 h).1,rfl⟩,(af.1 h).2⟩
   .split at h<;>first|exact⟨_,rfl,h⟩|exact h.elim
  .exact h.elim
 case ext i o=>
  unfold MG at h|-;split at h
  .split at h<;>first|exact⟨_,rfl,h⟩|exact h.elim
  .exact h.elim
 case len st o=>unfold Kh at h|-;split at h<;>first|exact⟨_,rfl,h⟩|exact h.elim
 case un op o=>unfold unK at h|-;split at h<;>first|exact⟨_,rfl,h⟩|exact h.elim
 case conv k o=>unfold CV at h|-;split at h<;>first|exact⟨_,rfl,h⟩|exact h.elim
 case bin op x y=>
  unfold El at h|-;split at h
  .obtain ⟨h0,h⟩:=af.1 h;split at h<;>first|exact⟨_,af.2 ⟨h0,rfl⟩,h⟩|exact⟨_,af.2 ⟨h0,h.1,rfl⟩,h.2⟩|exact h.elim
  .split at h<;>first|exact⟨_,rfl,h⟩|exact⟨_,⟨h.1,rfl⟩,h.2⟩|exact h.elim
  .exact h.elim
 case load agg n o=>
  unfold cB at h|-;split at h
  .split at h
   .exact ⟨_,af.2 ⟨(af.1 h).1,rfl⟩,(af.1 h).2⟩
   .split at h<;>first|exact⟨_,rfl,h⟩|exact h.elim
  .exact h.elim
 case lod bnd agg n o=>
  obtain⟨h0,h⟩:=af.1 h
  suffices h9:∃r,cB agg n (rd (ev o)) (λx=>x=r)/\K r from h9.imp λr ⟨q1,q2⟩=>⟨af.2 ⟨h0,q1⟩,q2⟩
  unfold cB at h|-;split at h
  .split at h
   .exact ⟨_,af.2 ⟨(af.1 h).1,rfl⟩,(af.1 h).2⟩
   .split at h<;>first|exact⟨_,rfl,h⟩|exact h.elim
  .exact h.elim
 case build zs ps=>
  obtain⟨r,h1,h2⟩:=F1 h;exact⟨_,rU (λx hx=>by rw[hx]) h1,h2⟩
 case aE sz rs=>
  obtain⟨r,h1,h2⟩:=Au h;exact⟨_,jD (λx hx=>by rw[hx]) h1,h2⟩
 case mk sz z l c=>unfold mkK at h|-;split at h<;>first|exact⟨_,⟨h.1,rfl⟩,h.2⟩|exact h.elim
 case fD mx x y=>
  unfold mmK at h|-;split at h
  .exact ⟨_,af.2 ⟨(af.1 h).1,rfl⟩,(af.1 h).2⟩
  .exact h.elim
 case oE ln sz x i=>
  unfold CB at h|-;split at h
  .exact ⟨_,af.2 ⟨(af.1 h).1,(af.1 h).2.1,rfl⟩,(af.1 h).2.2⟩
  .exact h.elim
 case Km agg ln sz x i=>
  unfold FO at h|-;split at h
  .obtain ⟨h0,h⟩:=h;split at h
   .exact ⟨_,⟨h0,af.2 ⟨(af.1 h).1,rfl⟩⟩,(af.1 h).2⟩
   .obtain ⟨c,h1,h2⟩:=h;exact⟨_,⟨h0,c,h1,rfl⟩,h2⟩
  .exact h.elim
 case slc sz x lo hi mx=>
  unfold G7 at h|-;split at h
  .obtain ⟨a,ha,h⟩:=eE h;obtain⟨b,hb,h⟩:=eE h;split at h
   .exact ⟨_,ha _ (hb _ ⟨h.1,rfl⟩),h.2⟩
   .obtain ⟨m,hm,h⟩:=eE h;exact⟨_,ha _ (hb _ (hm _ ⟨h.1,rfl⟩)),h.2⟩
  .obtain ⟨a,ha,h⟩:=eE h;obtain⟨b,hb,h⟩:=eE h;split at h
   .exact ⟨_,ha _ (hb _ ⟨h.1,rfl⟩),h.2⟩
   .obtain ⟨m,hm,h⟩:=eE h;exact⟨_,ha _ (hb _ (hm _ ⟨h.1,rfl⟩)),h.2⟩
  .exact h.elim
 case JQ x lo hi=>
  unfold EM at h|-;split at h
  .obtain ⟨a,ha,h⟩:=eE h;obtain⟨b,hb,h⟩:=eE h;exact⟨_,ha _ (hb _ ⟨h.1,rfl⟩),h.2⟩
  .exact h.elim
 case more g args=>exact s9 h
 case yk f xs ys=>exact⟨_,rfl,h⟩
 all_goals exact h.elim
def RX.qK(P:Program)(rx:RX)(ev:Opd->AV)(rd:AV->Option (List AV))(K:AV->Prop):Prop:=
 match rx with
 |.call f args=>fZ P (ev f) (evs ev args) K
 |.fh f args=>Gk P (ev f)/\fZ P (ev f) (evs ev args) K
 |rx=>rx.pK ev rd K
theorem IS{P:Program}{rx:RX}(h:∀f args,rx≠.call f args)(h':∀f args,rx≠.fh f args)(ev:Opd->AV)(rd:AV->Option (List AV))(K:AV->Prop):rx.qK P ev rd K=rx.pK ev rd K:=by
 cases rx<;>first|rfl|exact absurd rfl (h _ _)|exact absurd rfl (h' _ _)
theorem bY{P:Program}{rx:RX}(hp:rx.fz=true){s:St}{d:Option Nat}{K:St->Prop}:rx.run P true s d K↔rx.qK P s.ev s.rd λv=>K (s.put d v):=by
 cases rx<;>first|exact Iff.rfl|(simp[RX.fz] at hp)
theorem o0{P:Program}{rx:RX}{ev ev':Opd->AV}{rd rd':AV->Option (List AV)}(he:∀o∈rx.bG,ev o=ev' o)(hr:rx.looks=true->∀o∈rx.bG,rx.yp (ev o)->∀cs,rd (ev o)=some cs->rd' (ev o)=some cs){K:AV->Prop}(h:rx.qK P ev rd K):rx.qK P ev' rd' K:=by
 cases rx
 case call f args=>
  simp only[RX.bG,zI,forall_eq_or_imp] at he;simp only[RX.qK] at h|-;rw[<-he.1,<-eo he.2];exact h
 case fh f args=>
  simp only[RX.bG,zI,forall_eq_or_imp] at he;simp only[RX.qK] at h|-;rw[<-he.1,<-eo he.2];exact h
 all_goals (rw[IS (by simp) (by simp)] at h|-;exact LU he hr h)
theorem nC{P:Program}{rx:RX}{ev:Opd->AV}{rd:AV->Option (List AV)}{K K':AV->Prop}(hk:∀x,K x->K' x)(h:rx.qK P ev rd K):rx.qK P ev rd K':=by
 cases rx
 case call f args=>
  simp only[RX.qK] at h|-;unfold fZ at h|-;split at h
  .obtain ⟨r,h1,h2⟩:=h;exact⟨r,h1,hk _ h2⟩
  .exact h
 case fh f args=>
  simp only[RX.qK] at h|-;refine⟨h.1,?_⟩;have h:=h.2;unfold fZ at h|-;split at h
  .obtain ⟨r,h1,h2⟩:=h;exact⟨r,h1,hk _ h2⟩
  .exact h
 all_goals (rw[IS (by simp) (by simp)] at h|-;exact sS hk h)
theorem Fe{P:Program}{rx:RX}{ev:Opd->AV}{rd:AV->Option (List AV)}{K:AV->Prop}(h:rx.qK P ev rd K):∃r,rx.qK P ev rd (λx=>x=r)/\K r:=by
 cases rx
 case call f args=>
  simp only[RX.qK] at h|-;unfold fZ at h|-;split at h
  .obtain ⟨r,h1,h2⟩:=h;exact⟨r,⟨r,h1,rfl⟩,h2⟩
  .exact h.elim
 case fh f args=>
  simp only[RX.qK] at h|-;obtain⟨h0,h⟩:=h;unfold fZ at h|-;split at h
  .obtain ⟨r,h1,h2⟩:=h;exact⟨r,⟨h0,r,h1,rfl⟩,h2⟩
  .exact h.elim
 all_goals (rw[IS (by simp) (by simp)] at h;obtain⟨r,h1,h2⟩:=Qc h;exact⟨r,by rw[IS (by simp) (by simp)];exact h1,h2⟩)
theorem jd{a b:Nat}(h:a<b):Nat.blt a b=true:=by rw[Nat.blt_eq];exact h
theorem dM{a b:Nat}(h:¬a<b):Nat.blt a b=false:=by
 cases hb:Nat.blt a b with
 |false=>rfl
 |true=>rw[Nat.blt_eq] at hb;exact absurd hb h
theorem mV(a:Nat):Nat.beq a a=true:=by simp
theorem vz:∀(e:List (Nat×AV)) {j k:Nat} (x y:AV),j≠k->aT (aT e j x) k y=aT (aT e k y) j x
 |[],j,k,x,y,h=>by
  have h1:Nat.beq j k=false:=da h;have h2:Nat.beq k j=false:=da (Ne.symm h)
  by_cases h3:k<j
  .simp only[aT,h1,h2,jd h3,dM (show¬j<k by omega)]
  .simp only[aT,h1,h2,dM h3,jd (show j<k by omega)]
 |(t,u)::r,j,k,x,y,h=>by
  have h1:Nat.beq j k=false:=da h;have h2:Nat.beq k j=false:=da (Ne.symm h);have ih:=vz r x y h
  by_cases htj:t=j
  .subst htj
   by_cases h3:k<t
   .simp only[aT,mV,h1,h2,jd h3,dM (show¬t<k by omega)]
   .simp only[aT,mV,h1,dM h3]
  .by_cases htk:t=k
   .subst htk
    by_cases h3:j<t
    .simp only[aT,mV,h1,h2,jd h3,dM (show¬t<j by omega)]
    .simp only[aT,mV,h2,dM h3]
   .have b1:Nat.beq t j=false:=da htj;have b2:Nat.beq t k=false:=da htk
    by_cases h3:j<t
    .by_cases h4:k<t
     .by_cases h5:k<j
      .simp only[aT,b1,b2,h1,h2,jd h3,jd h4,jd h5,dM (show¬j<k by omega)]
      .simp only[aT,b1,b2,h1,h2,jd h3,jd h4,dM h5,jd (show j<k by omega)]
     .simp only[aT,b1,b2,h1,jd h3,dM h4,dM (show¬k<j by omega)]
    .by_cases h4:k<t
     .simp only[aT,b1,b2,h2,dM h3,jd h4,dM (show¬j<k by omega)]
     .simp only[aT,b1,b2,dM h3,dM h4,ih]
theorem St.put_comm(s:St){j k:Nat}(x y:AV)(h:j≠k):(s.put (some j) x).put (some k) y=(s.put (some k) y).put (some j) x:=by
 simp only[St.put,vz _ _ _ h]
theorem St.dL(s:St)(k:Nat)(v:AV){t:Nat}(h:t≠k):(s.put (some k) v).get t=s.get t:=by
 rw[St.get_at,St.get_at,St.eY,if_neg (by simpa using h)]
theorem St.D3(s:St)(k:Nat)(v:AV){o:Opd}(h:k∉o.cV):(s.put (some k) v).ev o=s.ev o:=by
 cases o with
 |t j=>simp only[St.ev];rw[St.dL];simpa[Opd.cV,eq_comm] using h
 |c x=>rfl
theorem St.tT(s:St)(d:Option Nat)(v:AV):(s.put d v).rd=s.rd:=by
 funext x
 cases d<;>(cases x<;>rfl)
theorem ET{P:Program}{rx:RX}{d:Option Nat}{k:Nat}(v:AV)(h1:k∉slotsOf rx.bG)(h2:d≠some k){s:St}{K:St->Prop}:
  rx.run P true (s.put (some k) v) d K↔rx.run P true s d (λs'=>K (s'.put (some k) v)):=by
 have hev:∀o∈rx.bG,(s.put (some k) v).ev o=s.ev o:=λo ho=>St.D3 s k v λhk=>h1 (eZ ho hk)
 have hput:∀y,(s.put (some k) v).put d y=(s.put d y).put (some k) v:=λy=>by
  cases d with
  |none=>rfl
  |some j=>exact St.put_comm s v y (λe=>h2 (by rw[e]))
 cases hp:rx.fz with
 |true=>
  rw[bY hp,bY hp];constructor
  .intro h;exact nC (λy hy=>by rw[<-hput];exact hy) (o0 hev (λ_ o _ _ cs e=>by rw[<-St.tT s (some k) v];exact e) h)
  .intro h;refine o0 (λo ho=>(hev o ho).symm) (λ_ o _ _ cs e=>by rw[St.tT];exact e) (nC (λy hy=>?_) h)
   rw[hput];exact hy
 |false=>
  cases rx<;>simp[RX.fz] at hp
  case eff e args=>exact Iff.rfl
  case take t=>
   have htk:t≠k:=λe=>h1 (by simp[RX.bG,slotsOf,Opd.cV,e])
   simp only[RX.run,vZ,St.dL s k v htk];cases s.get t<;>try (simp only[hput];done)
   rename_i c l
   cases c with
   |no=>simp only[hput]
   |full=>simp only[hput]
   |own z'=>
    cases d with
    |none=>exact Iff.rfl
    |some d=>
     have hdk:d≠k:=λe=>h2 (by rw[e])
     have:∀x y u,((((s.put (some k) v).put (some d) x).put (some t) y).put (some d) u)=((((s.put (some d) x).put (some t) y).put (some d) u).put (some k) v):=λx y u=>by
      rw[St.put_comm s v x (Ne.symm hdk),St.put_comm _ v y (Ne.symm htk),St.put_comm _ v u (Ne.symm hdk)]
     simp only[this]
  case box o=>
   simp only[RX.run,KQ];rw[hev o (by simp[RX.bG])]
   have:∀y cs,(((s.put (some k) v).jf cs).put d y)=(((s.jf cs).put d y).put (some k) v):=λy cs=>by
    cases d with
    |none=>rfl
    |some j=>exact St.put_comm (s.jf cs) v y (λe=>h2 (by rw[e]))
   have hb:(s.put (some k) v).bs=s.bs:=rfl;rw[hb,this]
  case store n p x=>
   simp only[RX.run,cL];rw[hev p (by simp[RX.bG]),hev x (by simp[RX.bG])]
   cases s.ev p<;>exact Iff.rfl
  case stn bnd n p x=>
   simp only[RX.run,Bg,cL];rw[hev p (by simp[RX.bG]),hev x (by simp[RX.bG])]
   cases s.ev p<;>exact Iff.rfl
  case append z o x=>
   simp only[RX.run,hO];rw[hev x (by simp[RX.bG])]
   cases s.ev x<;>try exact Iff.rfl
   rename_i c xs
   cases o with
   |t t=>
    have htk:t≠k:=λe=>h1 (by simp[RX.bG,slotsOf,Opd.cV,e])
    simp only[St.dL s k v htk];cases s.get t<;>try exact Iff.rfl
    rename_i c l
    cases c with
    |no=>exact Iff.rfl
    |full=>simp only[hput]
    |own z'=>
     have:∀y,(((s.put (some k) v).put (some t) (.sl .no l)).put d y)=(((s.put (some t) (.sl .no l)).put d y).put (some k) v):=λy=>by
      rw[St.put_comm s v _ (Ne.symm htk)]
      cases d with
      |none=>rfl
      |some j=>exact St.put_comm _ v y (λe=>h2 (by rw[e]))
     simp only[this]
   |c y=>
    cases y<;>try exact Iff.rfl
    rename_i c l
    cases c with
    |full=>simp only[hput]
    |_=>exact Iff.rfl
theorem Dp{P:Program}{rx:RX}{d:Option Nat}{s:St}{K K':St->Prop}{dr:Bool}(hk:∀x,K x->K' x)(h:rx.run P dr s d K):rx.run P dr s d K':=by
 cases rx
 case mov o=>
  cases dr with
  |true=>exact hk _ h
  |false=>
   simp only[RX.run,vZ] at h|-;split at h
   .exact hk _ h
   .split at h
    .split at h
     .exact af.2 ⟨(af.1 h).1,hk _ (af.1 h).2⟩
     .exact h
    .exact hk _ h
 case take t=>
  simp only[RX.run,vZ] at h|-;split at h
  .split at h
   .exact af.2 ⟨(af.1 h).1,hk _ (af.1 h).2⟩
   .exact h
  .exact hk _ h
 case fh f args=>
  refine⟨h.1,?_⟩;have h:=h.2
  cases dr with
  |true=>
   simp only at h|-;unfold fZ at h|-;split at h
   .obtain ⟨r,h1,h2⟩:=h;exact⟨r,h1,hk _ h2⟩
   .exact h
  |false=>
   simp only[kW] at h|-;split at h
   .obtain ⟨Q,h1,h2⟩:=h;exact⟨Q,h1,λr bs' hq=>hk _ (h2 r bs' hq)⟩
   .obtain ⟨Q,h1,h2⟩:=h;exact⟨Q,h1,λr bs' hq=>hk _ (h2 r bs' hq)⟩
   .exact h
 case box o=>exact af.2 ⟨(af.1 h).1,hk _ (af.1 h).2⟩
 case load agg n o=>
  cases dr with
  |true=>exact sS (rx:=.load agg n o) (λx hx=>hk _ hx) h
  |false=>
   simp only[RX.run,fE] at h|-;split at h
   .split at h
    .exact hk _ h
    .exact sS (rx:=.load false n o) (ev:=λ_=>_) (λx hx=>hk _ hx) h
   .exact sS (rx:=.load _ n o) (ev:=λ_=>_) (λx hx=>hk _ hx) h
 case store n p x=>
  have hst:∀n p v,cL n s p v K->cL n s p v K':=λn p v h=>by
   simp only[cL] at h|-;split at h
   .split at h
    .exact af.2 ⟨(af.1 h).1,hk _ (af.1 h).2⟩
    .exact h
   .exact h
  cases dr with
  |true=>exact hst _ _ _ h
  |false=>
   simp only[RX.run,nj] at h|-;split at h
   .split at h
    .split at h
     .exact af.2 ⟨(af.1 h).1,hk _ (af.1 h).2⟩
     .exact h
    .exact hst _ _ _ h
   .unfold nk at h|-;split at h
    .exact ⟨h.1,hk _ h.2⟩
    .exact h
   .exact hst _ _ _ h
 case stn conf n p x=>
  cases dr with
  |false=>exact h
  |true=>
   simp only[RX.run,Bg,cL] at h|-;split at h
   .refine af.2 ⟨(af.1 h).1,?_⟩;have h:=(af.1 h).2;split at h
    .exact af.2 ⟨(af.1 h).1,hk _ (af.1 h).2⟩
    .exact h
   .exact h
 case append z o x=>
  simp only[RX.run,hO] at h|-;split at h
  .split at h
   .split at h
    .exact af.2 ⟨(af.1 h).1,(af.1 h).2.1,hk _ (af.1 h).2.2⟩
    .exact ⟨h.1,hk _ h.2⟩
    .exact h
   .exact ⟨h.1,hk _ h.2⟩
   .exact h
  .exact h
 case call f args=>
  cases dr with
  |true=>exact nC (rx:=.call f args) (rd:=s.rd) (λx hx=>hk _ hx) h
  |false=>
   simp only[RX.run,kW] at h|-;split at h
   .obtain ⟨Q,h1,h2⟩:=h;exact⟨Q,h1,λr bs' hq=>hk _ (h2 r bs' hq)⟩
   .obtain ⟨Q,h1,h2⟩:=h;exact⟨Q,h1,λr bs' hq=>hk _ (h2 r bs' hq)⟩
   .exact h
 case eff e args=>
  cases dr with
  |true=>exact h
  |false=>exact KF hk h
 all_goals (simp only[RX.run] at h|-;exact sS (λx hx=>hk _ hx) h)
theorem OL{P:Program}{rx:RX}{d:Option Nat}{s:St}{K:St->Prop}(h:rx.run P true s d K):∃s1,rx.run P true s d (λx=>x=s1)/\K s1:=by
 cases hp:rx.fz with
 |true=>
  rw[bY hp] at h;obtain⟨r,h1,h2⟩:=Fe h
  exact⟨_,(bY hp).2 (nC (λx hx=>by rw[hx]) h1),h2⟩
 |false=>
  cases rx<;>simp[RX.fz] at hp
  case eff e args=>exact h.elim
  case take t=>
   simp only[RX.run,vZ] at h|-;split at h
   .split at h
    .exact ⟨_,af.2 ⟨(af.1 h).1,rfl⟩,(af.1 h).2⟩
    .exact h.elim
   .exact ⟨_,rfl,h⟩
  case box o=>exact⟨_,af.2 ⟨(af.1 h).1,rfl⟩,(af.1 h).2⟩
  case store n p x=>
   simp only[RX.run,cL] at h|-;split at h
   .split at h
    .exact ⟨_,af.2 ⟨(af.1 h).1,rfl⟩,(af.1 h).2⟩
    .exact h.elim
   .exact h.elim
  case stn conf n p x=>
   simp only[RX.run,Bg,cL] at h|-;split at h
   .have h1:=(af.1 h).1;have h:=(af.1 h).2;split at h
    .exact ⟨_,af.2 ⟨h1,af.2 ⟨(af.1 h).1,rfl⟩⟩,(af.1 h).2⟩
    .exact h.elim
   .exact h.elim
  case append z o x=>
   simp only[RX.run,hO] at h|-;split at h
   .split at h
    .split at h
     .exact ⟨_,af.2 ⟨(af.1 h).1,(af.1 h).2.1,rfl⟩,(af.1 h).2.2⟩
     .exact ⟨_,⟨h.1,rfl⟩,h.2⟩
     .exact h.elim
    .exact ⟨_,⟨h.1,rfl⟩,h.2⟩
    .exact h.elim
   .exact h.elim
theorem LD{P:Program}{rx:RX}{d:Option Nat}{s s1:St}(h:rx.run P true s d (λx=>x=s1)){k:Nat}(h1:d≠some k)(h2:rx.pk k=false):s1.get k=s.get k:=by
 have hput:∀(s:St) y,(s.put d y).get k=s.get k:=λs y=>by
  cases d with
  |none=>rfl
  |some j=>exact St.dL s j y (λe=>h1 (by rw[e]))
 cases hp:rx.fz with
 |true=>
  rw[bY hp] at h;obtain⟨r,_,rfl⟩:=Fe h
  exact hput s r
 |false=>
  cases rx<;>simp[RX.fz] at hp
  case eff e args=>exact h.elim
  case take t=>
   have htk:k≠t:=λe=>by subst e;simp[RX.pk] at h2
   simp only[RX.run,vZ] at h;split at h
   .split at h
    .rename_i d;have hdk:k≠d:=λe=>h1 (by rw[e])
     have:=(af.1 h).2;subst this;rw[St.dL _ _ _ hdk,St.dL _ _ _ htk,St.dL _ _ _ hdk]
    .exact h.elim
   .subst h;exact hput _ _
  case box o=>
   have:=(af.1 h).2;subst this;exact hput _ _
  case store n p x=>
   simp only[RX.run,cL] at h;split at h
   .split at h
    .have:=(af.1 h).2;subst this;rfl
    .exact h.elim
   .exact h.elim
  case stn conf n p x=>
   simp only[RX.run,Bg,cL] at h;split at h
   .have h:=(af.1 h).2;split at h
    .have:=(af.1 h).2;subst this;rfl
    .exact h.elim
   .exact h.elim
  case append z o x=>
   simp only[RX.run,hO] at h;split at h
   .split at h
    .rename_i t;have htk:k≠t:=λe=>by subst e;simp[RX.pk] at h2
     split at h
     .have:=(af.1 h).2.2;subst this;rw[hput,St.dL _ _ _ htk]
     .have:=h.2;subst this;exact hput _ _
     .exact h.elim
    .have:=h.2;subst this;exact hput _ _
    .exact h.elim
   .exact h.elim
def St.qu:St->List (Nat×AV)->St
 |s,[]=>s
 |s,(k,v)::r=>(s.put (some k) v).qu r
theorem St.NJ(s:St):∀ps:List (Nat×AV),(s.qu ps).bs=s.bs:=λps=>by
 induction ps generalizing s with
 |nil=>rfl
 |cons p ps ih=>obtain⟨k,v⟩:=p;simp only[St.qu];rw[ih];rfl
theorem D4{s s':St}{o:Opd}(h:∀k∈o.cV,s'.get k=s.get k):s'.ev o=s.ev o:=by
 cases o with
 |t k=>simp only[St.ev];rw[h k (by simp[Opd.cV])]
 |c x=>rfl
theorem LC{P:Program}{rx:RX}(hp:rx.mb=true){d:Option Nat}{s s1:St}(h:rx.run P true s d (λx=>x=s1)):
  ∃ps,s1=s.qu ps/\(∀p∈ps,d=some p.1\/rx.pk p.1=true)/\∀s',(∀k∈slotsOf rx.bG,s'.get k=s.get k)->(rx.looks=true->∀o∈rx.bG,rx.yp (s.ev o)->∀cs,s.rd (s.ev o)=some cs->s'.rd (s.ev o)=some cs)->rx.run P true s' d (λx=>x=s'.qu ps):=by
 have hput:∀v,∃ps,(∀s:St,s.put d v=s.qu ps)/\∀p∈ps,d=some p.1:=λv=>by
  cases d with
  |none=>exact⟨[],λs=>rfl,λp hp=>by cases hp⟩
  |some k=>exact⟨[(k,v)],λs=>rfl,λp hp=>by simp at hp;rw[hp]⟩
 cases hpp:rx.fz with
 |true=>
  rw[bY hpp] at h;obtain⟨v,h1,h2⟩:=Fe h;obtain⟨ps,q1,q2⟩:=hput v;refine⟨ps,by rw[<-h2,q1],λp hp=>.inl (q2 p hp),λs' hr hl=>?_⟩
  rw[bY hpp];refine nC (λx hx=>by rw[hx,q1]) (o0 (λo ho=>(D4 λk hk=>?_).symm) hl h1)
  exact hr k (eZ ho hk)
 |false=>
  cases rx<;>simp[RX.fz,RX.mb] at hpp hp
  case take t=>
   simp only[RX.run,vZ] at h|-;split at h
   .rename_i z l hg;split at h
    .rename_i k;obtain⟨h1,h2⟩:=af.1 h;refine⟨[(k,.sl .no l),(t,.sl .no l),(k,.sl (.own z) l)],h2.symm,λp hp=>?_,λs' hr _=>?_⟩
     .simp only[zI,ye,or_false] at hp;rcases hp with rfl|rfl|rfl
      .exact .inl rfl
      .exact .inr (by simp[RX.pk])
      .exact .inl rfl
     .have:=hr t (by simp[RX.bG,slotsOf,Opd.cV])
      rw[this,hg];exact af.2 ⟨h1,rfl⟩
    .exact h.elim
   .rename_i hnot;obtain⟨ps,q1,q2⟩:=hput (s.get t);refine⟨ps,by rw[<-h,q1],λp hp=>.inl (q2 p hp),λs' hr _=>?_⟩
    have:=hr t (by simp[RX.bG,slotsOf,Opd.cV])
    rw[this];split
    .rename_i z l hg;exact absurd hg (hnot z l)
    .rw [q1]
  case append z o x=>
   simp only[RX.run,hO] at h|-;have hx:∀s':St,(∀k∈slotsOf (RX.append z o x).bG,s'.get k=s.get k)->s'.ev x=s.ev x:=λs' hr=>D4 λk hk=>hr k (eZ (o:=x) (by simp[RX.bG]) hk)
   split at h
   .rename_i c xs hxe;split at h
    .rename_i t;split at h
     .rename_i z' l hg;obtain⟨h1,h2,h3⟩:=af.1 h;obtain⟨ps,q1,q2⟩:=hput (.sl (.own z) (l++xs));refine⟨(t,.sl .no l)::ps,by rw[<-h3,q1];rfl,λp hp=>?_,λs' hr _=>?_⟩
      .rcases zI.1 hp with rfl|hp
       .exact .inr (by simp[RX.pk])
       .exact .inl (q2 p hp)
      .rw [hx s' hr,hxe];simp only;rw[hr t (by simp[RX.bG,slotsOf,Opd.cV]),hg]
       exact af.2 ⟨h1,h2,by rw[q1];rfl⟩
     .rename_i l hg;obtain⟨ps,q1,q2⟩:=hput (.sl (.own z) (l++xs));refine⟨ps,by rw[<-h.2,q1],λp hp=>.inl (q2 p hp),λs' hr _=>?_⟩
      rw[hx s' hr,hxe];simp only;rw[hr t (by simp[RX.bG,slotsOf,Opd.cV]),hg]
      exact⟨h.1,by rw[q1]⟩
     .exact h.elim
    .rename_i l;obtain⟨ps,q1,q2⟩:=hput (.sl (.own z) (l++xs));refine⟨ps,by rw[<-h.2,q1],λp hp=>.inl (q2 p hp),λs' hr _=>?_⟩
     rw[hx s' hr,hxe];exact⟨h.1,by rw[q1]⟩
    .exact h.elim
   .exact h.elim
end Go.AM
