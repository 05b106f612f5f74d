/-
  Texts of this aQ joined (wip/gen/bundle.py),those declarations only that are needed:AmX. By an AI agent.
-/
import Derived.Test.YtahnpgfkkngimaaGreatBai
set_option linter.unusedSimpArgs false
set_option linter.unusedVariables false
namespace Go.AM
open Go.CK Go.RowKit
def Opd.bZ:Opd->List Nat
 |.t k=>[k]
 |.c _=>[]
def slotsOf:List Opd->List Nat
 |[]=>[]
 |o::os=>o.bZ++slotsOf os
def RX.bd:RX->List Opd
 |.mov o|.iR o|.aT _ o|.fld _ _ _ o|.ext _ o|.len _ o|.un _ o|.conv _ o|.load _ _ o|.lod _ _ _ o|.box o=>[o]
 |.pick c a b=>[c,a,b]
 |.idx _ x i|.pg x i|.bin _ x i|.mk _ _ x i|.store _ x i|.stn _ _ x i|.append _ x i=>[x,i]
 |.build _ ps=>ps.map λp=>p.2.2
 |.aG _ rs=>rs
 |.ug _ xs ys=>xs++ys
 |.call f args|.dD f args=>f::args
 |.more _ args=>args
 |.eff _ args=>args
 |.take t=>[.t t]
 |.c6 _ x y|.ql _ _ x y|.EZ _ _ _ x y=>[x,y]
 |.slc _ x lo hi mx=>x::(lo.toList++(hi.toList++mx.toList))
 |.Ez x lo hi=>x::(lo.toList++hi.toList)
def RX.eh:RX->Bool
 |.box _|.store .. |.stn .. |.append .. |.take _|.eff .. =>false
 |_=>true
def RX.looks:RX->Bool
 |.load .. |.lod .. |.box _|.store .. |.stn .. |.eff .. =>true
 |_=>false
def RX.j3:RX->Bool
 |.box _|.store .. |.stn .. |.eff .. =>false
 |_=>true
def CB:RX->RX->Bool
 |.lod b _ _ _,.stn c _ _ _=>Nat.ble b c
 |_,_=>false
def RX.um(v:AV):RX->Prop
 |.lod b _ _ _=>G6 b v=true
 |_=>True
def RX.nk(k:Nat):RX->Bool
 |.append _ (.t j) _|.take j=>Nat.beq j k
 |_=>false
def RX.Hb:RX->Bool
 |.box _=>true
 |_=>false
def ROp.reads(r:ROp):List Nat:=(match r.guard with|some (g,_)=>[g]|none=>[])++slotsOf r.rx.bd
def ROp.writes(r:ROp):List Nat:=(match r.dst with|some d=>[d]|none=>[])++(match r.rx with|.append _ (.t k) _|.take k=>[k]|_=>[])
def apart:List Nat->List Nat->Bool
 |[],_=>true
 |x::xs,ys=>!(ys.contains x)&&apart xs ys
def indep(x y:ROp):Bool:=
 (apart x.writes (y.reads++y.writes)&&apart y.writes x.reads)&&
 ((x.rx.j3&&(y.rx.j3||(y.rx.Hb||(!x.rx.looks||CB x.rx y.rx))))||(y.rx.j3&&!y.rx.looks))
theorem apart_spec:∀{xs ys:List Nat},apart xs ys=true->∀k,k∈xs->k∉ys
 |[],_,_,k,hk=>by cases hk
 |x::xs,ys,h,k,hk=>by
  simp only[apart,ZD,Zb,List.contains_eq_mem,decide_eq_false_iff_not] at h;rcases ZI.1 hk with rfl|hk
  .exact h.1
  .exact apart_spec h.2 k hk
theorem dO:∀{os:List Opd} {o:Opd} {k:Nat},o∈os->k∈o.bZ->k∈slotsOf os
 |_::os,o,k,h,hk=>by
  simp only[slotsOf,ZY];rcases ZI.1 h with rfl|h
  .exact .inl hk
  .exact .inr (dO h hk)
theorem di{ev ev':Opd->AV}:∀{os:List Opd},(∀o∈os,ev o=ev' o)->evs ev os=evs ev' os
 |[],_=>rfl
 |o::os,h=>by rw[evs,evs,h o (by simp),di λx hx=>h x (by simp[hx])]
theorem sk{ev ev':Opd->AV}:∀{ps:List (Nat×Nat×Opd)} {cs:List AV} {K:List AV->Prop},(∀o∈ps.map (λp=>p.2.2),ev o=ev' o)->mh ev ps cs K->mh ev' ps cs K
 |[],_,_,_,h=>h
 |(off,sz,o)::ps,cs,K,he,h=>by
  have h0:=he o (by simp)
  simp only[mh] at h|-;rw[<-h0];obtain⟨h1,h2⟩:=ae.1 h;exact ae.2 ⟨h1,sk (λx hx=>he x (by simp at hx|-;exact .inr hx)) h2⟩
theorem oE{ev ev':Opd->AV}{sz:Nat}:∀{os:List Opd} {K:List AV->Prop},(∀o∈os,ev o=ev' o)->dJ ev sz os K->dJ ev' sz os K
 |[],_,_,h=>h
 |o::os,K,he,h=>by
  have h0:=he o (by simp)
  simp only[dJ] at h|-;rw[<-h0];obtain⟨h1,h2⟩:=ae.1 h;exact ae.2 ⟨h1,oE (λx hx=>he x (by simp[hx])) h2⟩
theorem GA{rx:RX}{ev ev':Opd->AV}{rd rd':AV->Option (List AV)}(he:∀o∈rx.bd,ev o=ev' o)(hr:rx.looks=true->∀o∈rx.bd,rx.um (ev o)->∀cs,rd (ev o)=some cs->rd' (ev o)=some cs){K:AV->Prop}(h:rx.pK ev rd K):rx.pK ev' rd' K:=by
 cases rx<;>simp only[RX.bd,ZI,Xg,or_false,forall_eq_or_imp,forall_eq] at he<;>simp only[RX.pK] at h|-
 case mov o=>rw[<-he];exact h
 case pick c a b=>rw[<-he.1,<-he.2.1,<-he.2.2];exact h
 case iR o=>rw[<-he];exact h
 case aT off o=>rw[<-he];exact h
 case idx sz x i=>rw[<-he.1,<-he.2];exact h
 case pg x i=>rw[<-he.1,<-he.2];exact h
 case fld a off n o=>rw[<-he];exact h
 case ext i o=>rw[<-he];exact h
 case len st o=>rw[<-he];exact h
 case un op o=>rw[<-he];exact h
 case conv k o=>rw[<-he];exact h
 case bin op x y=>rw[<-he.1,<-he.2];exact h
 case load agg n o=>
  rw[<-he];unfold bM at h|-;split at h
  .rename_i cs hcs;rw[hr rfl o (by simp[RX.bd]) trivial _ hcs];exact h
  .exact h.elim
 case lod bnd agg n o=>
  rw[<-he];obtain⟨h1,h⟩:=ae.1 h;refine ae.2 ⟨h1,?_⟩;unfold bM at h|-;split at h
  .rename_i cs hcs;rw[hr rfl o (by simp[RX.bd]) h1 _ hcs];exact h
  .exact h.elim
 case build zs ps=>exact sk he h
 case aG sz rs=>exact oE he h
 case mk sz z l c=>rw[<-he.1,<-he.2];exact h
 case c6 mx x y=>rw[<-he.1,<-he.2];exact h
 case ql ln sz x i=>rw[<-he.1,<-he.2];exact h
 case EZ agg ln sz x i=>rw[<-he.1,<-he.2];exact h
 case slc sz x lo hi mx=>
  have e1:lo.map ev=lo.map ev':=by cases lo with|none=>rfl|some o=>simp only[ZM];rw[he.2 o (by simp)]
  have e2:hi.map ev=hi.map ev':=by cases hi with|none=>rfl|some o=>simp only[ZM];rw[he.2 o (by simp)]
  have e3:mx.map ev=mx.map ev':=by cases mx with|none=>rfl|some o=>simp only[ZM];rw[he.2 o (by simp)]
  rw[<-he.1,<-e1,<-e2,<-e3];exact h
 case Ez x lo hi=>
  have e1:lo.map ev=lo.map ev':=by cases lo with|none=>rfl|some o=>simp only[ZM];rw[he.2 o (by simp)]
  have e2:hi.map ev=hi.map ev':=by cases hi with|none=>rfl|some o=>simp only[ZM];rw[he.2 o (by simp)]
  rw[<-he.1,<-e1,<-e2];exact h
 case more g args=>rw[<-di he];exact h
 case ug f xs ys=>rw[<-di λo ho=>he o (Zy _ ho),<-di λo ho=>he o (YU _ ho)];exact h
theorem pk{ev:Opd->AV}:∀{ps:List (Nat×Nat×Opd)} {cs:List AV} {K K':List AV->Prop},(∀x,K x->K' x)->mh ev ps cs K->mh ev ps cs K'
 |[],_,_,_,hk,h=>hk _ h
 |(_,_,_)::_,_,_,_,hk,h=>ae.2 ⟨(ae.1 h).1,pk hk (ae.1 h).2⟩
theorem A3{ev:Opd->AV}:∀{ps:List (Nat×Nat×Opd)} {cs:List AV} {K:List AV->Prop},mh ev ps cs K->∃r,mh ev ps cs (λx=>x=r)/\K r
 |[],cs,_,h=>⟨cs,rfl,h⟩
 |(_,_,_)::_,_,_,h=>let ⟨r,h1,h2⟩:=A3 (ae.1 h).2;⟨r,ae.2 ⟨(ae.1 h).1,h1⟩,h2⟩
theorem gi{ev:Opd->AV}{sz:Nat}:∀{os:List Opd} {K K':List AV->Prop},(∀x,K x->K' x)->dJ ev sz os K->dJ ev sz os K'
 |[],_,_,hk,h=>hk _ h
 |_::_,_,_,hk,h=>ae.2 ⟨(ae.1 h).1,gi (λ_ hx=>hk _ hx) (ae.1 h).2⟩
theorem uX{ev:Opd->AV}{sz:Nat}:∀{os:List Opd} {K:List AV->Prop},dJ ev sz os K->∃r,dJ ev sz os (λx=>x=r)/\K r
 |[],_,h=>⟨[],rfl,h⟩
 |o::_,_,h=>let ⟨r,h1,h2⟩:=uX (ae.1 h).2;⟨(ev o).norm::r,ae.2 ⟨(ae.1 h).1,gi (λx hx=>by rw[hx]) h1⟩,h2⟩
theorem pV{rx:RX}{ev:Opd->AV}{rd:AV->Option (List AV)}{K K':AV->Prop}(hk:∀x,K x->K' x)(h:rx.pK ev rd K):rx.pK ev rd K':=by
 cases rx<;>simp only[RX.pK] at h|-
 case mov o=>exact hk _ h
 case pick c a b=>
  unfold xe at h|-;split at h
  .exact ⟨λe=>hk _ (h.1 e),λe=>hk _ (h.2 e)⟩
  .exact h
 case iR o=>unfold tW at h|-;split at h<;>first|exact hk _ h|exact h
 case aT off o=>exact ae.2 ⟨(ae.1 h).1,hk _ (ae.1 h).2⟩
 case idx sz x i=>
  unfold E0 at h|-;split at h
  .obtain ⟨y,h1,h2⟩:=h;exact⟨y,h1,hk _ h2⟩
  .exact ⟨h.1,hk _ h.2⟩
  .exact h
 case pg x i=>
  unfold xI at h|-;split at h
  .obtain ⟨y,h1,h2⟩:=h;exact⟨y,h1,hk _ h2⟩
  .exact h
 case fld agg off n o=>
  unfold Hn at h|-;split at h
  .split at h
   .exact ae.2 ⟨(ae.1 h).1,hk _ (ae.1 h).2⟩
   .split at h<;>first|exact hk _ h|exact h
  .exact h
 case ext i o=>
  unfold Hq at h|-;split at h
  .split at h<;>first|exact hk _ h|exact h
  .exact h
 case len st o=>unfold ET at h|-;split at h<;>first|exact hk _ h|exact h
 case un op o=>unfold unK at h|-;split at h<;>first|exact hk _ h|exact h
 case conv k o=>unfold xV at h|-;split at h<;>first|exact hk _ h|exact h
 case bin op x y=>
  unfold zj at h|-;split at h
  .refine ae.2 ⟨(ae.1 h).1,?_⟩;have h:=(ae.1 h).2;split at h<;>first|exact hk _ h|exact⟨h.1,hk _ h.2⟩|exact h
  .split at h<;>first|exact hk _ h|exact⟨h.1,hk _ h.2⟩|exact h
  .exact h
 case load agg n o=>
  unfold bM at h|-;split at h
  .split at h
   .exact ae.2 ⟨(ae.1 h).1,hk _ (ae.1 h).2⟩
   .split at h<;>first|exact hk _ h|exact h
  .exact h
 case lod bnd agg n o=>
  obtain⟨h0,h⟩:=ae.1 h;refine ae.2 ⟨h0,?_⟩;unfold bM at h|-;split at h
  .split at h
   .exact ae.2 ⟨(ae.1 h).1,hk _ (ae.1 h).2⟩
   .split at h<;>first|exact hk _ h|exact h
  .exact h
 case build zs ps=>exact pk (λx hx=>hk _ hx) h
 case aG sz rs=>exact gi (λx hx=>hk _ hx) h
 case mk sz z l c=>unfold mkK at h|-;split at h<;>first|exact⟨h.1,hk _ h.2⟩|exact h
 case c6 mx x y=>
  unfold mmK at h|-;split at h
  .exact ae.2 ⟨(ae.1 h).1,hk _ (ae.1 h).2⟩
  .exact h
 case ql ln sz x i=>
  unfold xJ at h|-;split at h
  .exact ae.2 ⟨(ae.1 h).1,(ae.1 h).2.1,hk _ (ae.1 h).2.2⟩
  .exact h
 case EZ agg ln sz x i=>
  unfold AS at h|-;split at h
  .refine ⟨h.1,?_⟩;have h:=h.2;split at h
   .exact ae.2 ⟨(ae.1 h).1,hk _ (ae.1 h).2⟩
   .obtain ⟨c,h1,h2⟩:=h;exact⟨c,h1,hk _ h2⟩
  .exact h
 case slc sz x lo hi mx=>
  unfold B6 at h|-;split at h
  .refine bT (λa h=>bT (λb h=>?_) h) h;split at h
   .exact ⟨h.1,hk _ h.2⟩
   .exact bT (λm h=>⟨h.1,hk _ h.2⟩) h
  .refine bT (λa h=>bT (λb h=>?_) h) h;split at h
   .exact ⟨h.1,hk _ h.2⟩
   .exact bT (λm h=>⟨h.1,hk _ h.2⟩) h
  .exact h
 case Ez x lo hi=>
  unfold zF at h|-;split at h
  .exact bT (λa h=>bT (λb h=>⟨h.1,hk _ h.2⟩) h) h
  .exact h
 case more g args=>exact Cw hk h
 case ug f xs ys=>exact hk _ h
theorem K0{rx:RX}{ev:Opd->AV}{rd:AV->Option (List AV)}{K:AV->Prop}(h:rx.pK ev rd K):∃r,rx.pK ev rd (λx=>x=r)/\K r:=by
 cases rx<;>simp only[RX.pK] at h|-
 case mov o=>exact⟨_,rfl,h⟩
 case pick c a b=>
  unfold xe at h|-;split at h
  .rename_i t _
   cases t with
   |true=>exact⟨_,⟨λ_=>rfl,(λe=>by cases e)⟩,h.1 rfl⟩
   |false=>exact⟨_,⟨(λe=>by cases e),λ_=>rfl⟩,h.2 rfl⟩
  .exact h.elim
 case iR o=>unfold tW at h|-;split at h<;>first|exact⟨_,rfl,h⟩|exact h.elim
 case aT off o=>exact⟨_,ae.2 ⟨(ae.1 h).1,rfl⟩,(ae.1 h).2⟩
 case idx sz x i=>
  unfold E0 at h|-;split at h
  .obtain ⟨y,h1,h2⟩:=h;exact⟨_,⟨y,h1,rfl⟩,h2⟩
  .exact ⟨_,⟨h.1,rfl⟩,h.2⟩
  .exact h.elim
 case pg x i=>
  unfold xI at h|-;split at h
  .obtain ⟨y,h1,h2⟩:=h;exact⟨_,⟨y,h1,rfl⟩,h2⟩
  .exact h.elim
 case fld agg off n o=>
  unfold Hn at h|-;split at h
  .split at h
   .exact ⟨_,ae.2 ⟨(ae.1 h).1,rfl⟩,(ae.1 h).2⟩
   .split at h<;>first|exact⟨_,rfl,h⟩|exact h.elim
  .exact h.elim
 case ext i o=>
  unfold Hq at h|-;split at h
  .split at h<;>first|exact⟨_,rfl,h⟩|exact h.elim
  .exact h.elim
 case len st o=>unfold ET at h|-;split at h<;>first|exact⟨_,rfl,h⟩|exact h.elim
 case un op o=>unfold unK at h|-;split at h<;>first|exact⟨_,rfl,h⟩|exact h.elim
 case conv k o=>unfold xV at h|-;split at h<;>first|exact⟨_,rfl,h⟩|exact h.elim
 case bin op x y=>
  unfold zj at h|-;split at h
  .obtain ⟨h0,h⟩:=ae.1 h;split at h<;>first|exact⟨_,ae.2 ⟨h0,rfl⟩,h⟩|exact⟨_,ae.2 ⟨h0,h.1,rfl⟩,h.2⟩|exact h.elim
  .split at h<;>first|exact⟨_,rfl,h⟩|exact⟨_,⟨h.1,rfl⟩,h.2⟩|exact h.elim
  .exact h.elim
 case load agg n o=>
  unfold bM at h|-;split at h
  .split at h
   .exact ⟨_,ae.2 ⟨(ae.1 h).1,rfl⟩,(ae.1 h).2⟩
   .split at h<;>first|exact⟨_,rfl,h⟩|exact h.elim
  .exact h.elim
 case lod bnd agg n o=>
  obtain⟨h0,h⟩:=ae.1 h
  suffices h9:∃r,bM agg n (rd (ev o)) (λx=>x=r)/\K r from h9.imp λr ⟨q1,q2⟩=>⟨ae.2 ⟨h0,q1⟩,q2⟩
  unfold bM at h|-;split at h
  .split at h
   .exact ⟨_,ae.2 ⟨(ae.1 h).1,rfl⟩,(ae.1 h).2⟩
   .split at h<;>first|exact⟨_,rfl,h⟩|exact h.elim
  .exact h.elim
 case build zs ps=>
  obtain⟨r,h1,h2⟩:=A3 h;exact⟨_,pk (λx hx=>by rw[hx]) h1,h2⟩
 case aG sz rs=>
  obtain⟨r,h1,h2⟩:=uX h;exact⟨_,gi (λx hx=>by rw[hx]) h1,h2⟩
 case mk sz z l c=>unfold mkK at h|-;split at h<;>first|exact⟨_,⟨h.1,rfl⟩,h.2⟩|exact h.elim
 case c6 mx x y=>
  unfold mmK at h|-;split at h
  .exact ⟨_,ae.2 ⟨(ae.1 h).1,rfl⟩,(ae.1 h).2⟩
  .exact h.elim
 case ql ln sz x i=>
  unfold xJ at h|-;split at h
  .exact ⟨_,ae.2 ⟨(ae.1 h).1,(ae.1 h).2.1,rfl⟩,(ae.1 h).2.2⟩
  .exact h.elim
 case EZ agg ln sz x i=>
  unfold AS at h|-;split at h
  .obtain ⟨h0,h⟩:=h;split at h
   .exact ⟨_,⟨h0,ae.2 ⟨(ae.1 h).1,rfl⟩⟩,(ae.1 h).2⟩
   .obtain ⟨c,h1,h2⟩:=h;exact⟨_,⟨h0,c,h1,rfl⟩,h2⟩
  .exact h.elim
 case slc sz x lo hi mx=>
  unfold B6 at h|-;split at h
  .obtain ⟨a,ha,h⟩:=dp h;obtain⟨b,hb,h⟩:=dp h;split at h
   .exact ⟨_,ha _ (hb _ ⟨h.1,rfl⟩),h.2⟩
   .obtain ⟨m,hm,h⟩:=dp h;exact⟨_,ha _ (hb _ (hm _ ⟨h.1,rfl⟩)),h.2⟩
  .obtain ⟨a,ha,h⟩:=dp h;obtain⟨b,hb,h⟩:=dp h;split at h
   .exact ⟨_,ha _ (hb _ ⟨h.1,rfl⟩),h.2⟩
   .obtain ⟨m,hm,h⟩:=dp h;exact⟨_,ha _ (hb _ (hm _ ⟨h.1,rfl⟩)),h.2⟩
  .exact h.elim
 case Ez x lo hi=>
  unfold zF at h|-;split at h
  .obtain ⟨a,ha,h⟩:=dp h;obtain⟨b,hb,h⟩:=dp h;exact⟨_,ha _ (hb _ ⟨h.1,rfl⟩),h.2⟩
  .exact h.elim
 case more g args=>exact p7 h
 case ug f xs ys=>exact⟨_,rfl,h⟩
 all_goals exact h.elim
def RX.qK(P:Program)(rx:RX)(ev:Opd->AV)(rd:AV->Option (List AV))(K:AV->Prop):Prop:=
 match rx with
 |.call f args=>eU P (ev f) (evs ev args) K
 |.dD f args=>Bo P (ev f)/\eU P (ev f) (evs ev args) K
 |rx=>rx.pK ev rd K
theorem Dx{P:Program}{rx:RX}(h:∀f args,rx≠.call f args)(h':∀f args,rx≠.dD f args)(ev:Opd->AV)(rd:AV->Option (List AV))(K:AV->Prop):rx.qK P ev rd K=rx.pK ev rd K:=by
 cases rx<;>first|rfl|exact absurd rfl (h _ _)|exact absurd rfl (h' _ _)
theorem bz{P:Program}{rx:RX}(hp:rx.eh=true){s:St}{d:Option Nat}{K:St->Prop}:rx.run P true s d K↔rx.qK P s.ev s.rd λv=>K (s.put d v):=by
 cases rx<;>first|exact Iff.rfl|(simp[RX.eh] at hp)
theorem mV{P:Program}{rx:RX}{ev ev':Opd->AV}{rd rd':AV->Option (List AV)}(he:∀o∈rx.bd,ev o=ev' o)(hr:rx.looks=true->∀o∈rx.bd,rx.um (ev o)->∀cs,rd (ev o)=some cs->rd' (ev o)=some cs){K:AV->Prop}(h:rx.qK P ev rd K):rx.qK P ev' rd' K:=by
 cases rx
 case call f args=>
  simp only[RX.bd,ZI,forall_eq_or_imp] at he;simp only[RX.qK] at h|-;rw[<-he.1,<-di he.2];exact h
 case dD f args=>
  simp only[RX.bd,ZI,forall_eq_or_imp] at he;simp only[RX.qK] at h|-;rw[<-he.1,<-di he.2];exact h
 all_goals (rw[Dx (by simp) (by simp)] at h|-;exact GA he hr h)
theorem lE{P:Program}{rx:RX}{ev:Opd->AV}{rd:AV->Option (List AV)}{K K':AV->Prop}(hk:∀x,K x->K' x)(h:rx.qK P ev rd K):rx.qK P ev rd K':=by
 cases rx
 case call f args=>
  simp only[RX.qK] at h|-;unfold eU at h|-;split at h
  .obtain ⟨r,h1,h2⟩:=h;exact⟨r,h1,hk _ h2⟩
  .exact h
 case dD f args=>
  simp only[RX.qK] at h|-;refine⟨h.1,?_⟩;have h:=h.2;unfold eU at h|-;split at h
  .obtain ⟨r,h1,h2⟩:=h;exact⟨r,h1,hk _ h2⟩
  .exact h
 all_goals (rw[Dx (by simp) (by simp)] at h|-;exact pV hk h)
theorem z7{P:Program}{rx:RX}{ev:Opd->AV}{rd:AV->Option (List AV)}{K:AV->Prop}(h:rx.qK P ev rd K):∃r,rx.qK P ev rd (λx=>x=r)/\K r:=by
 cases rx
 case call f args=>
  simp only[RX.qK] at h|-;unfold eU at h|-;split at h
  .obtain ⟨r,h1,h2⟩:=h;exact⟨r,⟨r,h1,rfl⟩,h2⟩
  .exact h.elim
 case dD f args=>
  simp only[RX.qK] at h|-;obtain⟨h0,h⟩:=h;unfold eU at h|-;split at h
  .obtain ⟨r,h1,h2⟩:=h;exact⟨r,⟨h0,r,h1,rfl⟩,h2⟩
  .exact h.elim
 all_goals (rw[Dx (by simp) (by simp)] at h;obtain⟨r,h1,h2⟩:=K0 h;exact⟨r,by rw[Dx (by simp) (by simp)];exact h1,h2⟩)
theorem fK{a b:Nat}(h:a<b):Nat.blt a b=true:=by rw[Nat.blt_eq];exact h
theorem cQ{a b:Nat}(h:¬a<b):Nat.blt a b=false:=by
 cases hb:Nat.blt a b with
 |false=>rfl
 |true=>rw[Nat.blt_eq] at hb;exact absurd hb h
theorem kZ(a:Nat):Nat.beq a a=true:=by simp
theorem sn:∀(e:List (Nat×AV)) {j k:Nat} (x y:AV),j≠k->aN (aN e j x) k y=aN (aN e k y) j x
 |[],j,k,x,y,h=>by
  have h1:Nat.beq j k=false:=cg h;have h2:Nat.beq k j=false:=cg (Ne.symm h)
  by_cases h3:k<j
  .simp only[aN,h1,h2,fK h3,cQ (show¬j<k by omega)]
  .simp only[aN,h1,h2,cQ h3,fK (show j<k by omega)]
 |(t,u)::r,j,k,x,y,h=>by
  have h1:Nat.beq j k=false:=cg h;have h2:Nat.beq k j=false:=cg (Ne.symm h);have ih:=sn r x y h
  by_cases htj:t=j
  .subst htj
   by_cases h3:k<t
   .simp only[aN,kZ,h1,h2,fK h3,cQ (show¬t<k by omega)]
   .simp only[aN,kZ,h1,cQ h3]
  .by_cases htk:t=k
   .subst htk
    by_cases h3:j<t
    .simp only[aN,kZ,h1,h2,fK h3,cQ (show¬t<j by omega)]
    .simp only[aN,kZ,h2,cQ h3]
   .have b1:Nat.beq t j=false:=cg htj;have b2:Nat.beq t k=false:=cg htk
    by_cases h3:j<t
    .by_cases h4:k<t
     .by_cases h5:k<j
      .simp only[aN,b1,b2,h1,h2,fK h3,fK h4,fK h5,cQ (show¬j<k by omega)]
      .simp only[aN,b1,b2,h1,h2,fK h3,fK h4,cQ h5,fK (show j<k by omega)]
     .simp only[aN,b1,b2,h1,fK h3,cQ h4,cQ (show¬k<j by omega)]
    .by_cases h4:k<t
     .simp only[aN,b1,b2,h2,cQ h3,fK h4,cQ (show¬j<k by omega)]
     .simp only[aN,b1,b2,cQ h3,cQ h4,ih]
theorem St.put_comm(s:St){j k:Nat}(x y:AV)(h:j≠k):(s.put (some j) x).put (some k) y=(s.put (some k) y).put (some j) x:=by
 simp only[St.put,sn _ _ _ h]
theorem St.fg(s:St)(k:Nat)(v:AV){t:Nat}(h:t≠k):(s.put (some k) v).get t=s.get t:=by
 rw[St.get_at,St.get_at,St.dM,if_neg (by simpa using h)]
theorem St.y6(s:St)(k:Nat)(v:AV){o:Opd}(h:k∉o.bZ):(s.put (some k) v).ev o=s.ev o:=by
 cases o with
 |t j=>simp only[St.ev];rw[St.fg];simpa[Opd.bZ,eq_comm] using h
 |c x=>rfl
theorem St.qE(s:St)(d:Option Nat)(v:AV):(s.put d v).rd=s.rd:=by
 funext x
 cases d<;>(cases x<;>rfl)
theorem zO{P:Program}{rx:RX}{d:Option Nat}{k:Nat}(v:AV)(h1:k∉slotsOf rx.bd)(h2:d≠some k){s:St}{K:St->Prop}:
  rx.run P true (s.put (some k) v) d K↔rx.run P true s d (λs'=>K (s'.put (some k) v)):=by
 have hev:∀o∈rx.bd,(s.put (some k) v).ev o=s.ev o:=λo ho=>St.y6 s k v λhk=>h1 (dO ho hk)
 have hput:∀y,(s.put (some k) v).put d y=(s.put d y).put (some k) v:=λy=>by
  cases d with
  |none=>rfl
  |some j=>exact St.put_comm s v y (λe=>h2 (by rw[e]))
 cases hp:rx.eh with
 |true=>
  rw[bz hp,bz hp];constructor
  .intro h;exact lE (λy hy=>by rw[<-hput];exact hy) (mV hev (λ_ o _ _ cs e=>by rw[<-St.qE s (some k) v];exact e) h)
  .intro h;refine mV (λo ho=>(hev o ho).symm) (λ_ o _ _ cs e=>by rw[St.qE];exact e) (lE (λy hy=>?_) h)
   rw[hput];exact hy
 |false=>
  cases rx<;>simp[RX.eh] at hp
  case eff e args=>exact Iff.rfl
  case take t=>
   have htk:t≠k:=λe=>h1 (by simp[RX.bd,slotsOf,Opd.bZ,e])
   simp only[RX.run,sR,St.fg s k v htk];cases s.get t<;>try (simp only[hput];done)
   rename_i c l
   cases c with
   |no=>simp only[hput]
   |full=>simp only[hput]
   |own z'=>
    cases d with
    |none=>exact Iff.rfl
    |some d=>
     have hdk:d≠k:=λe=>h2 (by rw[e])
     have:∀x y u,((((s.put (some k) v).put (some d) x).put (some t) y).put (some d) u)=((((s.put (some d) x).put (some t) y).put (some d) u).put (some k) v):=λx y u=>by
      rw[St.put_comm s v x (Ne.symm hdk),St.put_comm _ v y (Ne.symm htk),St.put_comm _ v u (Ne.symm hdk)]
     simp only[this]
  case box o=>
   simp only[RX.run,Fu];rw[hev o (by simp[RX.bd])]
   have:∀y cs,(((s.put (some k) v).fL cs).put d y)=(((s.fL cs).put d y).put (some k) v):=λy cs=>by
    cases d with
    |none=>rfl
    |some j=>exact St.put_comm (s.fL cs) v y (λe=>h2 (by rw[e]))
   have hb:(s.put (some k) v).bs=s.bs:=rfl;rw[hb,this]
  case store n p x=>
   simp only[RX.run,bS];rw[hev p (by simp[RX.bd]),hev x (by simp[RX.bd])]
   cases s.ev p<;>exact Iff.rfl
  case stn bnd n p x=>
   simp only[RX.run,vT,bS];rw[hev p (by simp[RX.bd]),hev x (by simp[RX.bd])]
   cases s.ev p<;>exact Iff.rfl
  case append z o x=>
   simp only[RX.run,fj];rw[hev x (by simp[RX.bd])]
   cases s.ev x<;>try exact Iff.rfl
   rename_i c xs
   cases o with
   |t t=>
    have htk:t≠k:=λe=>h1 (by simp[RX.bd,slotsOf,Opd.bZ,e])
    simp only[St.fg s k v htk];cases s.get t<;>try exact Iff.rfl
    rename_i c l
    cases c with
    |no=>exact Iff.rfl
    |full=>simp only[hput]
    |own z'=>
     have:∀y,(((s.put (some k) v).put (some t) (.sl .no l)).put d y)=(((s.put (some t) (.sl .no l)).put d y).put (some k) v):=λy=>by
      rw[St.put_comm s v _ (Ne.symm htk)]
      cases d with
      |none=>rfl
      |some j=>exact St.put_comm _ v y (λe=>h2 (by rw[e]))
     simp only[this]
   |c y=>
    cases y<;>try exact Iff.rfl
    rename_i c l
    cases c with
    |full=>simp only[hput]
    |_=>exact Iff.rfl
theorem yw{P:Program}{rx:RX}{d:Option Nat}{s:St}{K K':St->Prop}{dr:Bool}(hk:∀x,K x->K' x)(h:rx.run P dr s d K):rx.run P dr s d K':=by
 cases rx
 case mov o=>
  cases dr with
  |true=>exact hk _ h
  |false=>
   simp only[RX.run,sR] at h|-;split at h
   .exact hk _ h
   .split at h
    .split at h
     .exact ae.2 ⟨(ae.1 h).1,hk _ (ae.1 h).2⟩
     .exact h
    .exact hk _ h
 case take t=>
  simp only[RX.run,sR] at h|-;split at h
  .split at h
   .exact ae.2 ⟨(ae.1 h).1,hk _ (ae.1 h).2⟩
   .exact h
  .exact hk _ h
 case dD f args=>
  refine⟨h.1,?_⟩;have h:=h.2
  cases dr with
  |true=>
   simp only at h|-;unfold eU at h|-;split at h
   .obtain ⟨r,h1,h2⟩:=h;exact⟨r,h1,hk _ h2⟩
   .exact h
  |false=>
   simp only[jc] at h|-;split at h
   .obtain ⟨Q,h1,h2⟩:=h;exact⟨Q,h1,λr bs' hq=>hk _ (h2 r bs' hq)⟩
   .obtain ⟨Q,h1,h2⟩:=h;exact⟨Q,h1,λr bs' hq=>hk _ (h2 r bs' hq)⟩
   .exact h
 case box o=>exact ae.2 ⟨(ae.1 h).1,hk _ (ae.1 h).2⟩
 case load agg n o=>
  cases dr with
  |true=>exact pV (rx:=.load agg n o) (λx hx=>hk _ hx) h
  |false=>
   simp only[RX.run,eu] at h|-;split at h
   .split at h
    .exact hk _ h
    .exact pV (rx:=.load false n o) (ev:=λ_=>_) (λx hx=>hk _ hx) h
   .exact pV (rx:=.load _ n o) (ev:=λ_=>_) (λx hx=>hk _ hx) h
 case store n p x=>
  have hst:∀n p v,bS n s p v K->bS n s p v K':=λn p v h=>by
   simp only[bS] at h|-;split at h
   .split at h
    .exact ae.2 ⟨(ae.1 h).1,hk _ (ae.1 h).2⟩
    .exact h
   .exact h
  cases dr with
  |true=>exact hst _ _ _ h
  |false=>
   simp only[RX.run,ll] at h|-;split at h
   .split at h
    .split at h
     .exact ae.2 ⟨(ae.1 h).1,hk _ (ae.1 h).2⟩
     .exact h
    .exact hst _ _ _ h
   .unfold lp at h|-;split at h
    .exact ⟨h.1,hk _ h.2⟩
    .exact h
   .exact hst _ _ _ h
 case stn conf n p x=>
  cases dr with
  |false=>exact h
  |true=>
   simp only[RX.run,vT,bS] at h|-;split at h
   .refine ae.2 ⟨(ae.1 h).1,?_⟩;have h:=(ae.1 h).2;split at h
    .exact ae.2 ⟨(ae.1 h).1,hk _ (ae.1 h).2⟩
    .exact h
   .exact h
 case append z o x=>
  simp only[RX.run,fj] at h|-;split at h
  .split at h
   .split at h
    .exact ae.2 ⟨(ae.1 h).1,(ae.1 h).2.1,hk _ (ae.1 h).2.2⟩
    .exact ⟨h.1,hk _ h.2⟩
    .exact h
   .exact ⟨h.1,hk _ h.2⟩
   .exact h
  .exact h
 case call f args=>
  cases dr with
  |true=>exact lE (rx:=.call f args) (rd:=s.rd) (λx hx=>hk _ hx) h
  |false=>
   simp only[RX.run,jc] at h|-;split at h
   .obtain ⟨Q,h1,h2⟩:=h;exact⟨Q,h1,λr bs' hq=>hk _ (h2 r bs' hq)⟩
   .obtain ⟨Q,h1,h2⟩:=h;exact⟨Q,h1,λr bs' hq=>hk _ (h2 r bs' hq)⟩
   .exact h
 case eff e args=>
  cases dr with
  |true=>exact h
  |false=>exact Fe hk h
 all_goals (simp only[RX.run] at h|-;exact pV (λx hx=>hk _ hx) h)
theorem Jw{P:Program}{rx:RX}{d:Option Nat}{s:St}{K:St->Prop}(h:rx.run P true s d K):∃s1,rx.run P true s d (λx=>x=s1)/\K s1:=by
 cases hp:rx.eh with
 |true=>
  rw[bz hp] at h;obtain⟨r,h1,h2⟩:=z7 h
  exact⟨_,(bz hp).2 (lE (λx hx=>by rw[hx]) h1),h2⟩
 |false=>
  cases rx<;>simp[RX.eh] at hp
  case eff e args=>exact h.elim
  case take t=>
   simp only[RX.run,sR] at h|-;split at h
   .split at h
    .exact ⟨_,ae.2 ⟨(ae.1 h).1,rfl⟩,(ae.1 h).2⟩
    .exact h.elim
   .exact ⟨_,rfl,h⟩
  case box o=>exact⟨_,ae.2 ⟨(ae.1 h).1,rfl⟩,(ae.1 h).2⟩
  case store n p x=>
   simp only[RX.run,bS] at h|-;split at h
   .split at h
    .exact ⟨_,ae.2 ⟨(ae.1 h).1,rfl⟩,(ae.1 h).2⟩
    .exact h.elim
   .exact h.elim
  case stn conf n p x=>
   simp only[RX.run,vT,bS] at h|-;split at h
   .have h1:=(ae.1 h).1;have h:=(ae.1 h).2;split at h
    .exact ⟨_,ae.2 ⟨h1,ae.2 ⟨(ae.1 h).1,rfl⟩⟩,(ae.1 h).2⟩
    .exact h.elim
   .exact h.elim
  case append z o x=>
   simp only[RX.run,fj] at h|-;split at h
   .split at h
    .split at h
     .exact ⟨_,ae.2 ⟨(ae.1 h).1,(ae.1 h).2.1,rfl⟩,(ae.1 h).2.2⟩
     .exact ⟨_,⟨h.1,rfl⟩,h.2⟩
     .exact h.elim
    .exact ⟨_,⟨h.1,rfl⟩,h.2⟩
    .exact h.elim
   .exact h.elim
theorem Gj{P:Program}{rx:RX}{d:Option Nat}{s s1:St}(h:rx.run P true s d (λx=>x=s1)){k:Nat}(h1:d≠some k)(h2:rx.nk k=false):s1.get k=s.get k:=by
 have hput:∀(s:St) y,(s.put d y).get k=s.get k:=λs y=>by
  cases d with
  |none=>rfl
  |some j=>exact St.fg s j y (λe=>h1 (by rw[e]))
 cases hp:rx.eh with
 |true=>
  rw[bz hp] at h;obtain⟨r,_,rfl⟩:=z7 h
  exact hput s r
 |false=>
  cases rx<;>simp[RX.eh] at hp
  case eff e args=>exact h.elim
  case take t=>
   have htk:k≠t:=λe=>by subst e;simp[RX.nk] at h2
   simp only[RX.run,sR] at h;split at h
   .split at h
    .rename_i d;have hdk:k≠d:=λe=>h1 (by rw[e])
     have:=(ae.1 h).2;subst this;rw[St.fg _ _ _ hdk,St.fg _ _ _ htk,St.fg _ _ _ hdk]
    .exact h.elim
   .subst h;exact hput _ _
  case box o=>
   have:=(ae.1 h).2;subst this;exact hput _ _
  case store n p x=>
   simp only[RX.run,bS] at h;split at h
   .split at h
    .have:=(ae.1 h).2;subst this;rfl
    .exact h.elim
   .exact h.elim
  case stn conf n p x=>
   simp only[RX.run,vT,bS] at h;split at h
   .have h:=(ae.1 h).2;split at h
    .have:=(ae.1 h).2;subst this;rfl
    .exact h.elim
   .exact h.elim
  case append z o x=>
   simp only[RX.run,fj] at h;split at h
   .split at h
    .rename_i t;have htk:k≠t:=λe=>by subst e;simp[RX.nk] at h2
     split at h
     .have:=(ae.1 h).2.2;subst this;rw[hput,St.fg _ _ _ htk]
     .have:=h.2;subst this;exact hput _ _
     .exact h.elim
    .have:=h.2;subst this;exact hput _ _
    .exact h.elim
   .exact h.elim
def St.ou:St->List (Nat×AV)->St
 |s,[]=>s
 |s,(k,v)::r=>(s.put (some k) v).ou r
theorem St.Iv(s:St):∀ps:List (Nat×AV),(s.ou ps).bs=s.bs:=λps=>by
 induction ps generalizing s with
 |nil=>rfl
 |cons p ps ih=>obtain⟨k,v⟩:=p;simp only[St.ou];rw[ih];rfl
theorem y7{s s':St}{o:Opd}(h:∀k∈o.bZ,s'.get k=s.get k):s'.ev o=s.ev o:=by
 cases o with
 |t k=>simp only[St.ev];rw[h k (by simp[Opd.bZ])]
 |c x=>rfl
theorem Gi{P:Program}{rx:RX}(hp:rx.j3=true){d:Option Nat}{s s1:St}(h:rx.run P true s d (λx=>x=s1)):
  ∃ps,s1=s.ou ps/\(∀p∈ps,d=some p.1\/rx.nk p.1=true)/\∀s',(∀k∈slotsOf rx.bd,s'.get k=s.get k)->(rx.looks=true->∀o∈rx.bd,rx.um (s.ev o)->∀cs,s.rd (s.ev o)=some cs->s'.rd (s.ev o)=some cs)->rx.run P true s' d (λx=>x=s'.ou ps):=by
 have hput:∀v,∃ps,(∀s:St,s.put d v=s.ou ps)/\∀p∈ps,d=some p.1:=λv=>by
  cases d with
  |none=>exact⟨[],λs=>rfl,λp hp=>by cases hp⟩
  |some k=>exact⟨[(k,v)],λs=>rfl,λp hp=>by simp at hp;rw[hp]⟩
 cases hpp:rx.eh with
 |true=>
  rw[bz hpp] at h;obtain⟨v,h1,h2⟩:=z7 h;obtain⟨ps,q1,q2⟩:=hput v;refine⟨ps,by rw[<-h2,q1],λp hp=>.inl (q2 p hp),λs' hr hl=>?_⟩
  rw[bz hpp];refine lE (λx hx=>by rw[hx,q1]) (mV (λo ho=>(y7 λk hk=>?_).symm) hl h1)
  exact hr k (dO ho hk)
 |false=>
  cases rx<;>simp[RX.eh,RX.j3] at hpp hp
  case take t=>
   simp only[RX.run,sR] at h|-;split at h
   .rename_i z l hg;split at h
    .rename_i k;obtain⟨h1,h2⟩:=ae.1 h;refine⟨[(k,.sl .no l),(t,.sl .no l),(k,.sl (.own z) l)],h2.symm,λp hp=>?_,λs' hr _=>?_⟩
     .simp only[ZI,Xg,or_false] at hp;rcases hp with rfl|rfl|rfl
      .exact .inl rfl
      .exact .inr (by simp[RX.nk])
      .exact .inl rfl
     .have:=hr t (by simp[RX.bd,slotsOf,Opd.bZ])
      rw[this,hg];exact ae.2 ⟨h1,rfl⟩
    .exact h.elim
   .rename_i hnot;obtain⟨ps,q1,q2⟩:=hput (s.get t);refine⟨ps,by rw[<-h,q1],λp hp=>.inl (q2 p hp),λs' hr _=>?_⟩
    have:=hr t (by simp[RX.bd,slotsOf,Opd.bZ])
    rw[this];split
    .rename_i z l hg;exact absurd hg (hnot z l)
    .rw [q1]
  case append z o x=>
   simp only[RX.run,fj] at h|-;have hx:∀s':St,(∀k∈slotsOf (RX.append z o x).bd,s'.get k=s.get k)->s'.ev x=s.ev x:=λs' hr=>y7 λk hk=>hr k (dO (o:=x) (by simp[RX.bd]) hk)
   split at h
   .rename_i c xs hxe;split at h
    .rename_i t;split at h
     .rename_i z' l hg;obtain⟨h1,h2,h3⟩:=ae.1 h;obtain⟨ps,q1,q2⟩:=hput (.sl (.own z) (l++xs));refine⟨(t,.sl .no l)::ps,by rw[<-h3,q1];rfl,λp hp=>?_,λs' hr _=>?_⟩
      .rcases ZI.1 hp with rfl|hp
       .exact .inr (by simp[RX.nk])
       .exact .inl (q2 p hp)
      .rw [hx s' hr,hxe];simp only;rw[hr t (by simp[RX.bd,slotsOf,Opd.bZ]),hg]
       exact ae.2 ⟨h1,h2,by rw[q1];rfl⟩
     .rename_i l hg;obtain⟨ps,q1,q2⟩:=hput (.sl (.own z) (l++xs));refine⟨ps,by rw[<-h.2,q1],λp hp=>.inl (q2 p hp),λs' hr _=>?_⟩
      rw[hx s' hr,hxe];simp only;rw[hr t (by simp[RX.bd,slotsOf,Opd.bZ]),hg]
      exact⟨h.1,by rw[q1]⟩
     .exact h.elim
    .rename_i l;obtain⟨ps,q1,q2⟩:=hput (.sl (.own z) (l++xs));refine⟨ps,by rw[<-h.2,q1],λp hp=>.inl (q2 p hp),λs' hr _=>?_⟩
     rw[hx s' hr,hxe];exact⟨h.1,by rw[q1]⟩
    .exact h.elim
   .exact h.elim
end Go.AM
