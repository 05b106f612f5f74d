/-
  Texts of this aQ joined (wip/gen/bundle.py),those declarations only that are needed:AmZn AmL. By an AI agent.
-/
import Derived.Test.YtahnpgfkkngimaaGreatBal
set_option linter.unusedSimpArgs false
set_option linter.unusedVariables false
namespace Go.AM
open Go.CK Go.RowKit
def qi(ops:Array Oper)(rs:List ROp)(pi cs ms:List Nat):Bool:=F5 rs pi&&i7 ops.toList 0&&(tU pi&&(nL pi ops.size&&r8 rs cs ms [] pi))
def vL(ops:Array Oper)(ms:List Nat)(Inv:Array Bool->Prop):Prop:=∀listed:Array Bool,aE ops (λi=>listed.getD i false=true)->Inv listed->∀i o,i<ops.size->ops[i]? =some o->(∀e∈o.after,Region.binds .any e=true->listed.getD e.on false=true)->∀k,(ms.getD i 0).testBit k=true->listed.getD k false=true
theorem Aw{ops:Array Oper}(Inv:Array Bool->Prop):vL ops (aI [] ops.toList) Inv:=λlisted hD _ i o h1 ho hpre k hb=>by
 have hml:i<(aI [] ops.toList).length:=by rw[gd];simpa using h1
 exact lQ hD (os:=ops.toList) (acc:=[]) (λj o' hj=>by simpa using hj) (λi m o' hm=>by simp at hm) (λi hlt=>by simp at hlt) i ((aI [] ops.toList).getD i 0) o (by simp[ZA hml]) ho hpre k hb
def nh(ms:List Nat)(x y:Nat):List Nat:=ms.set y (ms.getD y 0|||(1<<<x))
theorem xv{ops:Array Oper}{ms:List Nat}{x y:Nat}(h:vL ops ms λ_=>True):vL ops (nh ms x y) λl=>l.getD x false=true:=λlisted hD hI i o h1 ho hpre k hb=>by
 by_cases hk:k=x
 .subst hk;exact hI
 .refine h listed hD trivial i o h1 ho hpre k ?_;simp only[nh,List.getD_eq_getElem?_getD] at hb|-
  by_cases hi:i=y
  .subst hi
   by_cases hlt:i<ms.length
   .simp only[List.getElem?_set_self hlt,YR,Nat.testBit_or,YL] at hb;rcases hb with hb|hb
    .exact hb
    .exfalso;rw[Nat.one_shiftLeft,Nat.testBit_two_pow] at hb;exact hk (by simpa using hb:x=k).symm
   .rw [List.set_eq_of_length_le (by omega)] at hb;exact hb
  .rwa [Yg (Ne.symm hi)] at hb
section
variable{P:Program}{nt:Nat}{fl:Bool}{ops:Array Oper}{rs:List ROp}{cs pi:List Nat}{E:Entry}{rd:Option Nat}{n:Nat}
theorem yo{K:St->Prop}{V ms:List Nat}{listed:Array Bool}{s:St}{i:Nat}{r:ROp}(hss1:pi.Pairwise (Ssa rs))(hss2:∀k∈pi,Ssa rs k k)(hV:∀k∈pi,cs.getD k 0=0->∀x,rs[k]? =some x->x.rx.looks=true->∀t∈slotsOf x.rx.bd,t∈V)
  (hnd:pi.Nodup) (hmem:i∈pi) (hrows:r8 rs cs ms [] pi=true) (hl:i<listed.size) (h2:listed.getD i true=false) (hr:rs[i]? =some r)
  (hm:∀k,(ms.getD i 0).testBit k=true->listed.getD k false=true) (hex:gY P rs cs V (pi.filter λk=>!listed.getD k true) s K):
  ∃dr K1,r.run P dr s K1/\∀s1,K1 s1->gY P rs cs V (pi.filter λk=>!(listed.setIfInBounds i true).getD k true) s1 K:=by
 obtain⟨A,B,hAB⟩:=List.append_of_mem hmem;have hndAB:=hnd;rw[hAB] at hndAB;obtain⟨e1,e3⟩:=yq (λk=>!listed.getD k true) i hndAB (by simp[h2])
 rw[<-hAB] at e1 e3;obtain⟨pre,hpred⟩:∃pre,pre=A.filter λk=>!listed.getD k true:=⟨_,rfl⟩;obtain⟨post,hpostd⟩:∃post,post=B.filter λk=>!listed.getD k true:=⟨_,rfl⟩;rw[<-hpred,<-hpostd] at e1 e3
 have hgd:∀k,listed.getD k true=false->listed.getD k false=false:=λk hk=>by
  simp only[ZT] at hk|-
  cases hq:listed[k]? with
  |none=>rw[hq] at hk;cases hk
  |some b=>rw[hq] at hk;simpa using hk
 have hex':gY P rs cs V (pre++i::post) s K:=by rw[<-e1];exact hex
 have hrow:∀k∈A,Ab rs cs (ms.getD i 0) i k=true:=λk hk=>tn (A:=A) (B:=B) (by rw[<-hAB];exact hrows) k (.inl hk)
 have hpreI:∀k∈pre,cs.getD k 0=0/\match cs.getD i 0 with
   |0=>∀x y,rs[k]? =some x->rs[i]? =some y->indep x y=true
   |1=>False
   |_+2=>∀x y,rs[k]? =some x->rs[i]? =some y->Bh x y=true:=λk hk=>by
  rw[hpred,Zo] at hk;obtain⟨hkA,hkl⟩:=hk;have hp:=hrow k hkA;simp only[Ab,YL,ZD] at hp;rcases hp with hb|⟨hb1,hb2⟩
  .exfalso;have:=hm k hb;have h4:=hgd k (by simpa using hkl)
   rw[h4] at this;cases this
  .refine ⟨ZO hb1,?_⟩;revert hb2
   cases hx:rs[k]? with
   |none=>intro hb2;cases hb2
   |some x=>
    rw[hr]
    cases cs.getD i 0 with
    |zero=>exact λhb2 x' y' hx' hy'=>by cases hx';cases hy';exact hb2
    |succ c=>
     cases c with
     |zero=>exact λhb2=>by cases hb2
     |succ c=>exact λhb2 x' y' hx' hy'=>by cases hx';cases hy';exact hb2
 obtain⟨dr,K1,hrun,hrest⟩:∃dr K1,r.run P dr s K1/\∀s1,K1 s1->gY P rs cs V (pre++post) s1 K:=by
  have hdet:∀k∈pre,cs.getD k 0=0:=λk hk=>(hpreI k hk).1;have hsnd:=λk hk=>(hpreI k hk).2
  cases hci:cs.getD i 0 with
  |zero=>
   rw[hci] at hsnd
   obtain⟨sm,h3,h4⟩:=tj (pre:=pre++[i]) (post:=post) (λk hk=>by
    rcases ZY.1 hk with h5|h5
    .exact hdet k h5
    .simp at h5;rw[h5];exact hci) (by simpa using hex')
   obtain⟨s1,⟨r',hr',h5⟩,h6⟩:=front h3 hsnd;rw[hr] at hr';cases hr';refine⟨true,_,h5,λs2 e=>?_⟩;subst e
   exact qz hdet (by simpa using h6) h4
  |succ c=>
   cases c with
   |zero=>
    rw[hci] at hsnd
    cases hpe:pre with
    |cons k0 pre'=>exact(hsnd k0 (by rw[hpe];simp)).elim
    |nil=>
     rw[hpe] at hex';obtain⟨r',hr',h3⟩:=hex';rw[hr] at hr';cases hr';rw[hci] at h3
     exact⟨_,_,h3,λs1 h4=>h4⟩
   |succ c=>
    rw[hci] at hsnd;obtain⟨sm,h3,h4⟩:=tj (pre:=pre) (post:=i::post) hdet hex';obtain⟨r',hr',h5⟩:=h4;rw[hr] at hr';cases hr';rw[hci] at h5
    have hsub:pre.Sublist pi:=by
     rw[hAB,hpred];exact List.filter_sublist.trans (List.sublist_append_left _ _)
    have h3':=A6 (V:=V) h3 (hss1.sublist hsub) (λk hk=>hss2 k (hsub.subset hk)) (λk hk=>hV k (hsub.subset hk) (hdet k hk));have h6:=Bc (i:=i) h3' (λk hk x hx=>hsnd k hk x r hx hr) (ROp.mono (λs' hs'=>⟨wK.h hs',wK.k hs'⟩) h5);exact⟨false,_,h6,λs1 ⟨_,s2,h7,h8⟩=>qz hdet h7 h8⟩
 refine⟨dr,K1,hrun,λs1 hs1=>?_⟩
 have hset:(pi.filter λk=>!(listed.setIfInBounds i true).getD k true)=pre++post:=by
  rw[<-e3];refine Yr λk hk=>?_
  by_cases hki:k=i
  .subst hki;simp[hl]
  .have hne:(k==i)=false:=by simpa using hki
   simp[ZW (Ne.symm hki),hne]
 rw[hset];exact hrest s1 hs1
theorem rS{K:St->Prop}{ms V:List Nat}(hV:∀k∈pi,cs.getD k 0=0->∀x,rs[k]? =some x->x.rx.looks=true->∀t∈slotsOf x.rx.bd,t∈V)(Inv:Array Bool->Prop)(hinv:∀l i,Inv l->Inv (l.setIfInBounds i true))(hms:vL ops ms Inv)(hc:∀(i:Nat) (o:Oper),ops[i]? =some o->∃r,rs[i]? =some r/\OpC P nt ops o r)(hi:qi ops rs pi cs ms=true){Q:Exit->Act->World->Prop}(hnt:E.nt=nt):
  ∀(fuel:Nat) (listed:Array Bool) (s:St) (G:Gh) (a:Act) (w:World),listed.size=ops.size->(ao ops listed).length<=fuel->aE ops (λi=>listed.getD i false=true)->Inv listed->gY P rs cs V (pi.filter λk=>!listed.getD k true) s K->RS E G s a w->
   (∀s' G' a' w',K s'->RS E G' s' a' w'->Q .normal a' w')->wpAnyIn (F0 rd) n P .any ops Q fuel listed a w:=by
 simp only[qi,ZD] at hi;obtain⟨⟨hssa,hedges⟩,hnd,hbel,hrows⟩:=hi;obtain⟨hss1,hss2⟩:=nU hssa;have hnd:=iQ hnd;have hbel:=fk hbel
 have hready:∀(listed:Array Bool) i,listed.size=ops.size->i∈Region.ready .any ops listed->i<ops.size/\listed.getD i true=false/\∃o,ops[i]? =some o/\∀e∈o.after,Region.binds .any e=true->listed.getD e.on false=true:=λlisted i hl h=>by
  simp only[Region.ready,Zo,Zd,ZD,Zb] at h;obtain⟨h1,h2,h3⟩:=h;refine⟨h1,h2,ops[i],Zi h1,λe he hb=>?_⟩;rw[Zi h1] at h3;simp only[ZM,YR,YN,YL,Zb] at h3;rcases h3 e he with h4|h4
  .rw [hb] at h4;cases h4
  .exact h4
 --what is listed in π is what there is
 have hpi:∀(listed:Array Bool),listed.size=ops.size->ao ops listed=[]->(pi.filter λk=>!listed.getD k true)=[]:=λlisted hl h=>by
  refine List.filter_eq_nil_iff.2 λk hk=>?_;intro hk2;simp only[Zb] at hk2
  have hlt:k<ops.size:=by
   rcases Zs k ops.size with h1|h1
   .exact h1
   .rw [ZT,Yl (by omega)] at hk2;cases hk2
  have:k∈ao ops listed:=by simp only[ao,Zo,Zd];exact⟨hlt,by simp[hk2]⟩
  rw[h] at this;cases this
 intro fuel
 induction fuel with
 |zero=>
  intro listed s G a w hl hlen hD hI hex hs hQ;have hnil:ao ops listed=[]:=YW.1 (by omega)
  rw[hpi listed hl hnil] at hex;refine⟨?_,hQ s G a w hex hs⟩;rcases hq:Region.ready .any ops listed with _|⟨i,_⟩
  .rfl
  .obtain ⟨h1,h2,_⟩:=hready listed i hl (by rw[hq];simp)
   have:i∈ao ops listed:=by simp only[ao,Zo,Zd];exact⟨h1,by simp[h2]⟩
   rw[hnil] at this;cases this
 |succ fuel ih=>
  intro listed s G a w hl hlen hD hI hex hs hQ;refine⟨λhr=>?_,λi hi'=>?_⟩
  .have hnil:ao ops listed=[]:=by
    rcases hq:ao ops listed with _|⟨i,l⟩
    .rfl
    .exfalso;have hsort:(ao ops listed).Pairwise (·<·):=List.pairwise_lt_range.filter _;rw[hq] at hsort;have hfirst:=(Zx.1 hsort).1;have hmem:i∈ao ops listed:=by rw[hq];simp
     simp only[ao,Zo,Zd,Zb] at hmem
     have hin:i∈Region.ready .any ops listed:=by
      simp only[Region.ready,Zo,Zd,ZD,Zb];refine⟨hmem.1,hmem.2,?_⟩;rw[Zi hmem.1];simp only[ZM,YR,YN,YL,Zb];intro e he
      cases hb:Region.binds .any e with
      |false=>exact .inl rfl
      |true=>
       have hlt:=eD hedges i ops[i] (by simp[hmem.1]) e he hb
       rw[YG] at hlt;refine .inr ?_
       cases hlk:listed.getD e.on false with
       |true=>rfl
       |false=>
        exfalso
        have hlk2:listed.getD e.on true=false:=by
         have hsz:e.on<listed.size:=by rw[hl];omega
         simpa[hsz] using hlk
        have hin2:e.on∈ao ops listed:=by
         simp only[ao,Zo,Zd,Zb];exact⟨by omega,hlk2⟩
        rw[hq] at hin2;rcases ZI.1 hin2 with h5|h5
        .omega
        .have:=hfirst _ h5;omega
     rw[hr] at hin;cases hin
   rw[hpi listed hl hnil] at hex;exact hQ s G a w hex hs
  .obtain ⟨h1,h2,o,ho,hpre⟩:=hready listed i hl hi';obtain⟨r,hr,hoc⟩:=hc i o ho;obtain⟨dr,K1,hrun,hrest⟩:=yo hss1 hss2 hV hnd (hbel i h1) hrows (by rw[hl];exact h1) h2 hr (λk hk=>hms listed hD hI i o h1 ho hpre k hk) hex
   refine ft hoc ho hrun hs hnt λs' G' a' w' hs1 hs' _=>?_;have hmem:i∈List.range ops.size:=by simpa using h1
   obtain⟨pre0,post0,f1,f2,f3⟩:=eB (λk=>!listed.getD k true) i (List.range ops.size) hmem (by simp[h2]) XZ
   have hset0:ao ops (listed.setIfInBounds i true)=pre0++post0:=by
    rw[<-f3];unfold ao;refine Yr λk hk=>?_
    by_cases hki:k=i
    .subst hki;have:k<listed.size:=by rw[hl];exact h1
     simp[this]
    .have hne:(k==i)=false:=by simpa using hki
     simp[ZW (Ne.symm hki),hne]
   refine ih _ _ G' a' w' (by simpa using hl) ?_ ?_ (hinv _ _ hI) (hrest _ hs1) hs' hQ
   .rw [hset0];have:(ao ops listed).length=(pre0++i::post0).length:=by rw[<-f1];rfl
    simp at this|-;omega
   .intro j oj hj hDj e he hb
    have hkeep:∀k,listed.getD k false=true->(listed.setIfInBounds i true).getD k false=true:=λk hk=>by
     by_cases hki:k=i
     .subst hki;have:k<listed.size:=by rw[hl];exact h1
      simp[this]
     .simp only[ZT] at hk|-;rw[ZW (Ne.symm hki)];exact hk
    by_cases hji:j=i
    .subst hji;rw[ho] at hj;cases hj;exact hkeep _ (hpre e he hb)
    .refine hkeep _ (hD j oj hj ?_ e he hb);simp only[ZT] at hDj|-
     rwa [ZW (Ne.symm hji)] at hDj
theorem WP.zV(hm:P.follows .mixedOrders=true){id:Nat}{tk:Nat->Nat->Bool}(hc:pr P nt tk ops ops.toList=some rs)(hi:xH ops rs pi cs=true){q:List (Nat×ROp)}(hq:cz rs cs pi=some q){s:St}{Q:AX->St->Prop}(h:il P (iq q) q s (Q .normal)):WP P nt fl (.region id ops true) s Q:=λE G a w rd n hs he=>by
 obtain⟨h1,h2⟩:=fc hc;have h3:=eW hq h;refine wpIn_region_any hm ?_;refine rS (V:=iq q) (eX hq) (λ_=>True) (λ_ _ _=>trivial) (Aw _) (λi o ho=>h2 i o (by simpa using ho)) hi he.1 ops.size _ s G a _ (by simp) ?_ ?_ trivial ?_ hs.drew λs' G' a' w' h4 h5=>⟨.normal,s',G',rfl,h4,h5⟩
 .exact YM (XH _ _) (by simp)
 .intro i o _ hD;simp only[ZT,XP] at hD;split at hD<;>cases hD
 .rw [XM.2]
  .exact h3
  .intro i hi;have hlt:=ij hq i hi;have hlen:rs.length=ops.size:=by simpa using h1.symm
   simp[show i<ops.size by omega]
theorem mO{V:List Nat}{K:St->Prop}:∀{pre post:List Nat} {s:St},gY P rs cs V pre s (λsm=>gY P rs cs V post sm K)->gY P rs cs V (pre++post) s K
 |[],post,s,h=>h
 |k::pre,post,s,⟨r,hr,h⟩=>by
  refine⟨r,hr,?_⟩;revert h
  cases cs.getD k 0 with
  |zero=>exact λh=>ROp.mono (λs' hs'=>mO hs') h
  |succ c=>
   cases c with
   |zero=>exact λh=>ROp.mono (λs' hs'=>mO hs') h
   |succ c=>exact λh=>ROp.mono (λs' hs'=>⟨hs'.h,mO hs'.k⟩) h
theorem j5{V:List Nat}{K K':St->Prop}(hk:∀x,K x->K' x):∀{pre:List Nat} {s:St},gY P rs cs V pre s K->gY P rs cs V pre s K'
 |[],s,h=>hk _ h
 |k::pre,s,⟨r,hr,h⟩=>by
  refine⟨r,hr,?_⟩;revert h
  cases cs.getD k 0 with
  |zero=>exact λh=>ROp.mono (λs' hs'=>j5 hk hs') h
  |succ c=>
   cases c with
   |zero=>exact λh=>ROp.mono (λs' hs'=>j5 hk hs') h
   |succ c=>exact λh=>ROp.mono (λs' hs'=>⟨hs'.h,j5 hk hs'.k⟩) h
def DJ(ms:List Nat)(x y:Nat):List Nat->Bool
 |[]=>true
 |i::l=>(Nat.beq i x||Nat.beq i y||(ms.getD i 0).testBit x||(ms.getD i 0).testBit y)&&DJ ms x y l
theorem uw{ms:List Nat}{x y:Nat}:∀{l:List Nat},DJ ms x y l=true->∀i∈l,i=x\/i=y\/(ms.getD i 0).testBit x=true\/(ms.getD i 0).testBit y=true
 |[],_,i,hi=>by cases hi
 |k::l,h,i,hi=>by
  simp only[DJ,ZD,YL] at h;rcases ZI.1 hi with rfl|hi
  .rcases h.1 with ((h1|h1)|h1)|h1
   .exact .inl (ZO h1)
   .exact .inr (.inl (ZO h1))
   .exact .inr (.inr (.inl h1))
   .exact .inr (.inr (.inr h1))
  .exact uw h.2 i hi
def aX(qa q1 q2:List (Nat×ROp)):List Nat:=iq qa++(iq q1++iq q2)
def zi(ops:Array Oper)(rs:List ROp)(cs A:List Nat)(x y:Nat)(B1 B2:List Nat):Bool:=
 qi ops rs (A++x::B1) cs (nh (aI [] ops.toList) x y)&&(qi ops rs (A++y::B2) cs (nh (aI [] ops.toList) y x)&&(r8 rs cs (aI [] ops.toList) [] A&&(!(Nat.beq x y)&&DJ (aI [] ops.toList) x y B1)))
theorem qb{ms:List Nat}{x y i:Nat}(h:i≠y):(nh ms x y).getD i 0=ms.getD i 0:=by
 simp only[nh,List.getD_eq_getElem?_getD];rw[Yg (Ne.symm h)]
theorem BH{listed:Array Bool}(hedges:i7 ops.toList 0=true)(hl:listed.size=ops.size)(hr:Region.ready .any ops listed=[])(hne:∃x,x∈ao ops listed):False:=by
 rcases hq:ao ops listed with _|⟨i,l⟩
 .obtain ⟨x,hx⟩:=hne;rw[hq] at hx;cases hx
 .have hsort:(ao ops listed).Pairwise (·<·):=List.pairwise_lt_range.filter _;rw[hq] at hsort;have hfirst:=(Zx.1 hsort).1;have hmem:i∈ao ops listed:=by rw[hq];simp
  simp only[ao,Zo,Zd,Zb] at hmem
  have hin:i∈Region.ready .any ops listed:=by
   simp only[Region.ready,Zo,Zd,ZD,Zb];refine⟨hmem.1,hmem.2,?_⟩;rw[Zi hmem.1];simp only[ZM,YR,YN,YL,Zb];intro e he
   cases hb:Region.binds .any e with
   |false=>exact .inl rfl
   |true=>
    have hlt:=eD hedges i ops[i] (by simp[hmem.1]) e he hb
    rw[YG] at hlt;refine .inr ?_
    cases hlk:listed.getD e.on false with
    |true=>rfl
    |false=>
     exfalso
     have hlk2:listed.getD e.on true=false:=by
      have hsz:e.on<listed.size:=by rw[hl];omega
      simpa[hsz] using hlk
     have hin2:e.on∈ao ops listed:=by
      simp only[ao,Zo,Zd,Zb];exact⟨by omega,hlk2⟩
     rw[hq] at hin2;rcases ZI.1 hin2 with h5|h5
     .omega
     .have:=hfirst _ h5;omega
  rw[hr] at hin;cases hin
theorem BI{listed:Array Bool}{i fuel:Nat}(hl:listed.size=ops.size)(h1:i<ops.size)(h2:listed.getD i true=false)(hlen:(ao ops listed).length<=fuel+1):(ao ops (listed.setIfInBounds i true)).length<=fuel:=by
 have hmem:i∈List.range ops.size:=by simpa using h1
 obtain⟨pre0,post0,f1,f2,f3⟩:=eB (λk=>!listed.getD k true) i (List.range ops.size) hmem (by simp[h2]) XZ
 have hset0:ao ops (listed.setIfInBounds i true)=pre0++post0:=by
  rw[<-f3];unfold ao;refine Yr λk hk=>?_
  by_cases hki:k=i
  .subst hki;have:k<listed.size:=by rw[hl];exact h1
   simp[this]
  .have hne:(k==i)=false:=by simpa using hki
   simp[ZW (Ne.symm hki),hne]
 rw[hset0];have:(ao ops listed).length=(pre0++i::post0).length:=by rw[<-f1];rfl
 simp at this|-;omega
theorem vw{listed:Array Bool}{i:Nat}{o:Oper}(hl:listed.size=ops.size)(h1:i<ops.size)(ho:ops[i]? =some o)(hpre:∀e∈o.after,Region.binds .any e=true->listed.getD e.on false=true)(hD:aE ops (λi=>listed.getD i false=true)):aE ops (λj=>(listed.setIfInBounds i true).getD j false=true):=by
 intro j oj hj hDj e he hb
 have hkeep:∀k,listed.getD k false=true->(listed.setIfInBounds i true).getD k false=true:=λk hk=>by
  by_cases hki:k=i
  .subst hki;have:k<listed.size:=by rw[hl];exact h1
   simp[this]
  .simp only[ZT] at hk|-;rw[ZW (Ne.symm hki)];exact hk
 by_cases hji:j=i
 .subst hji;rw[ho] at hj;cases hj;exact hkeep _ (hpre e he hb)
 .refine hkeep _ (hD j oj hj ?_ e he hb);simp only[ZT] at hDj|-
  rwa [ZW (Ne.symm hji)] at hDj
theorem HP{K:St->Prop}{A B1 B2 V:List Nat}{x y:Nat}(hV:∀k∈A++x::B1++(A++y::B2),cs.getD k 0=0->∀z,rs[k]? =some z->z.rx.looks=true->∀t∈slotsOf z.rx.bd,t∈V)(hc:∀(i:Nat) (o:Oper),ops[i]? =some o->∃r,rs[i]? =some r/\OpC P nt ops o r)(hi:zi ops rs cs A x y B1 B2=true){Q:Exit->Act->World->Prop}(hnt:E.nt=nt):
  ∀(fuel:Nat) (listed:Array Bool) (s:St) (G:Gh) (a:Act) (w:World),listed.size=ops.size->(ao ops listed).length<=fuel->aE ops (λi=>listed.getD i false=true)->(∀i,i∈x::B1\/i∈y::B2->listed.getD i true=false)->
   gY P rs cs V (A.filter λk=>!listed.getD k true) s (λsA=>gY P rs cs V (x::B1) sA K/\gY P rs cs V (y::B2) sA K)->RS E G s a w->
   (∀s' G' a' w',K s'->RS E G' s' a' w'->Q .normal a' w')->wpAnyIn (F0 rd) n P .any ops Q fuel listed a w:=by
 simp only[zi,ZD,Zb] at hi;obtain⟨hi1,hi2,hrA,hxy,hlate⟩:=hi;have hxy:x≠y:=λe=>by subst e;rw[show Nat.beq x x=true from by simp] at hxy;cases hxy
 have hI1:=hi1;have hI2:=hi2;simp only[qi,ZD] at hi1 hi2;obtain⟨⟨hssa1,hedges⟩,hnd1,hbel1,hrows1⟩:=hi1;obtain⟨⟨hssa2,_⟩,hnd2,hbel2,hrows2⟩:=hi2;obtain⟨p1,p2⟩:=nU hssa1;obtain⟨p3,p4⟩:=nU hssa2;have hnd1:=iQ hnd1;have hnd2:=iQ hnd2;have hbel1:=fk hbel1;have hbel2:=fk hbel2;have hM:vL ops (aI [] ops.toList) λ_=>True:=Aw _
 have hready:∀(listed:Array Bool) i,listed.size=ops.size->i∈Region.ready .any ops listed->i<ops.size/\listed.getD i true=false/\∃o,ops[i]? =some o/\∀e∈o.after,Region.binds .any e=true->listed.getD e.on false=true:=λlisted i hl h=>by
  simp only[Region.ready,Zo,Zd,ZD,Zb] at h;obtain⟨h1,h2,h3⟩:=h;refine⟨h1,h2,ops[i],Zi h1,λe he hb=>?_⟩;rw[Zi h1] at h3;simp only[ZM,YR,YN,YL,Zb] at h3;rcases h3 e he with h4|h4
  .rw [hb] at h4;cases h4
  .exact h4
 have hfil:∀(listed:Array Bool) (B:List Nat),(∀i∈B,listed.getD i true=false)->(B.filter λk=>!listed.getD k true)=B:=λlisted B h=>XM.2 λk hk=>by rw[h k hk];rfl
 intro fuel
 induction fuel with
 |zero=>
  intro listed s G a w hl hlen hD hB hex hs hQ;exfalso;have hx:=hB x (.inl (by simp))
  have hlt:x<ops.size:=by
   rcases Zs x ops.size with h1|h1
   .exact h1
   .rw [ZT,Yl (by omega)] at hx;cases hx
  have:x∈ao ops listed:=by simp only[ao,Zo,Zd];exact⟨hlt,by simp[hx]⟩
  have:=List.length_pos_of_mem this
  omega
 |succ fuel ih=>
  intro listed s G a w hl hlen hD hB hex hs hQ;have hx:=hB x (.inl (by simp))
  have hy:=hB y (.inr (by simp))
  have hgd:∀k,listed.getD k true=false->listed.getD k false=false:=λk hk=>by
   simp only[ZT] at hk|-
   cases hq:listed[k]? with
   |none=>rw[hq] at hk;cases hk
   |some b=>rw[hq] at hk;simpa using hk
  have hltx:x<ops.size:=by
   rcases Zs x ops.size with h1|h1
   .exact h1
   .rw [ZT,Yl (by omega)] at hx;cases hx
  have E1:gY P rs cs V ((A++x::B1).filter λk=>!listed.getD k true) s K:=by
   rw[List.filter_append,hfil listed (x::B1) λi hi=>hB i (.inl hi)];exact mO (j5 (λ_ h=>h.1) hex)
  have E2:gY P rs cs V ((A++y::B2).filter λk=>!listed.getD k true) s K:=by
   rw[List.filter_append,hfil listed (y::B2) λi hi=>hB i (.inr hi)]
   exact mO (j5 (λ_ h=>h.2) hex)
  --the part of what comes up:by the masks,as if one order alone were meant
  refine⟨λhr=>?_,λi hi'=>?_⟩
  .exact (BH hedges hl hr ⟨x,by simp only[ao,Zo,Zd];exact⟨hltx,by simp[hx]⟩⟩).elim
  .obtain ⟨h1,h2,o,ho,hpre⟩:=hready listed i hl hi';obtain⟨r,hr,hoc⟩:=hc i o ho;have hlen':(ao ops (listed.setIfInBounds i true)).length<=fuel:=BI hl h1 h2 hlen;have hD':aE ops (λj=>(listed.setIfInBounds i true).getD j false=true):=vw hl h1 ho hpre hD;have hsz:(listed.setIfInBounds i true).size=ops.size:=by simpa using hl
   have hself:(listed.setIfInBounds i true).getD i false=true:=by
    have:i<listed.size:=by rw[hl];exact h1
    simp[this]
   have hother:∀k,k≠i->(listed.setIfInBounds i true).getD k true=listed.getD k true:=λk hki=>by
    simp only[ZT];rw[ZW (Ne.symm hki)]
   have keepInv:∀z (l:Array Bool) j,l.getD z false=true->(l.setIfInBounds j true).getD z false=true:=λz l j hz=>by
    by_cases hzj:z=j
    .subst hzj
     by_cases hlt:z<l.size
     .simp [hlt]
     .simp only[ZT] at hz;rw[Yl (by omega)] at hz;cases hz
    .simp only[ZT] at hz|-;rw[ZW (Ne.symm hzj)];exact hz
   have hbits:∀k,((aI [] ops.toList).getD i 0).testBit k=true->listed.getD k false=true:=λk hk=>hM listed hD trivial i o h1 ho hpre k hk
   by_cases hix:i=x
   .subst hix;obtain⟨dr,K1,hrun,hrest⟩:=yo (ms:=nh (aI [] ops.toList) i y) p1 p2 (λk hk=>hV k (Zy _ hk)) hnd1 (hbel1 i h1) hrows1 (by rw[hl];exact h1) h2 hr (λk hk=>hbits k (by rwa [qb hxy] at hk)) E1
    refine ft hoc ho hrun hs hnt λs' G' a' w' hs1 hs' _=>?_;exact rS (V:=V) (λk hk=>hV k (Zy _ hk)) (λl=>l.getD i false=true) (λl j hz=>keepInv i l j hz) (xv hM) hc hI1 hnt fuel _ _ G' a' w' hsz hlen' hD' hself (hrest _ hs1) hs' hQ
   .by_cases hiy:i=y
    .subst hiy;obtain⟨dr,K1,hrun,hrest⟩:=yo (ms:=nh (aI [] ops.toList) i x) p3 p4 (λk hk=>hV k (YU _ hk)) hnd2 (hbel2 i h1) hrows2 (by rw[hl];exact h1) h2 hr (λk hk=>hbits k (by rwa [qb hix] at hk)) E2
     refine ft hoc ho hrun hs hnt λs' G' a' w' hs1 hs' _=>?_;exact rS (V:=V) (λk hk=>hV k (YU _ hk)) (λl=>l.getD i false=true) (λl j hz=>keepInv i l j hz) (xv hM) hc hI2 hnt fuel _ _ G' a' w' hsz hlen' hD' hself (hrest _ hs1) hs' hQ
    .have hiA:i∈A:=by
      rcases ZY.1 (hbel1 i h1) with h|h
      .exact h
      .rcases ZI.1 h with h|h
       .exact (hix h).elim
       .rcases uw hlate i h with h|h|h|h
        .exact (hix h).elim
        .exact (hiy h).elim
        .have:=hbits x h;rw[hgd x hx] at this;cases this
        .have:=hbits y h;rw[hgd y hy] at this;cases this
     obtain⟨dr,K1,hrun,hrest⟩:=yo (ms:=aI [] ops.toList) (List.pairwise_append.1 p1).1 (λk hk=>p2 k (Zy _ hk)) (λk hk=>hV k (Zy _ (Zy _ hk))) (List.nodup_append.1 hnd1).1 hiA hrA (by rw[hl];exact h1) h2 hr hbits hex
     refine ft hoc ho hrun hs hnt λs' G' a' w' hs1 hs' _=>?_;refine ih _ _ G' a' w' hsz hlen' hD' (λk hk=>?_) (hrest _ hs1) hs' hQ
     have hki:k≠i:=λe=>by
      subst e;have d1:=(List.nodup_append.1 hnd1).2.2 k hiA;have d2:=(List.nodup_append.1 hnd2).2.2 k hiA;rcases hk with hk|hk
      .exact d1 k hk rfl
      .exact d2 k hk rfl
     rw[hother k hki];exact hB k hk
theorem WP.zW(hm:P.follows .mixedOrders=true){id:Nat}{tk:Nat->Nat->Bool}{A B1 B2:List Nat}{x y:Nat}(hc:pr P nt tk ops ops.toList=some rs)(hi:zi ops rs cs A x y B1 B2=true){qa q1 q2:List (Nat×ROp)}(ha:cz rs cs A=some qa)(h1:cz rs cs (x::B1)=some q1)(h2:cz rs cs (y::B2)=some q2){s:St}{Q:AX->St->Prop}
  (h:il P (aX qa q1 q2) qa s λsA=>il P (aX qa q1 q2) q1 sA (Q .normal)/\il P (aX qa q1 q2) q2 sA (Q .normal)):WP P nt fl (.region id ops true) s Q:=λE G a w rd n hs he=>by
 obtain⟨hz,hcc⟩:=fc hc
 have hnil:∀k,k<rs.length->(Array.replicate ops.size false).getD k true=false:=λk hk=>by
  have hlen:rs.length=ops.size:=by simpa using hz.symm
  simp[show k<ops.size by omega]
 refine wpIn_region_any hm ?_;refine HP (V:=aX qa q1 q2) (λk hk h0 z hz hl t ht=>?_) (λi o ho=>hcc i o (by simpa using ho)) hi he.1 ops.size _ s G a _ (by simp) ?_ ?_ ?_ ?_ hs.drew λs' G' a' w' h4 h5=>⟨.normal,s',G',rfl,h4,h5⟩
 .simp only[aX,ZY];rcases ZY.1 hk with hk|hk<;>rcases ZY.1 hk with hk|hk
  .exact .inl (eX ha k hk h0 z hz hl t ht)
  .exact .inr (.inl (eX h1 k hk h0 z hz hl t ht))
  .exact .inl (eX ha k hk h0 z hz hl t ht)
  .exact .inr (.inr (eX h2 k hk h0 z hz hl t ht))
 .exact YM (XH _ _) (by simp)
 .intro i o _ hD;simp only[ZT,XP] at hD;split at hD<;>cases hD
 .rintro i (hi|hi)
  .exact hnil i (ij h1 i hi)
  .exact hnil i (ij h2 i hi)
 .rw [XM.2 λk hk=>by rw[hnil k (ij ha k hk)];rfl]
  exact eW ha (aY (λ_ hx=>⟨eW h1 hx.1,eW h2 hx.2⟩) h)
end
end Go.AM
namespace Go.AM
open Go.CK Go.RowKit
section
variable{E:Entry}{G:Gh}{s:St}{a:Act}{w:World}{P:Program}
theorem GZ{D D':Nat}(h:mark D=mark D'):D=D':=by
 simp only[mark,Deferred.mk.injEq,Target.collected.injEq] at h;exact h.1
theorem RS.FY(h:RS E G s a w){D:Nat}{ds:List Deferred}(hd:a.defers=mark D::ds)(hdd:∃Ds:List Nat,ds=Ds.map mark++E.dd):(Instr.takeDeferred D).run P w=.ok [] (w.putObj D (.deferred none))/\RS E G s ⟨a.tmps,ds⟩ (w.putObj D (.deferred none)):=by
 obtain⟨h1,h2,h3⟩:=h.sp.ob D (.deferred (some [])) (.inr ⟨by rw[hd];simp,rfl⟩)
 refine⟨run_takeDeferred h1,?_⟩;obtain⟨_,_,hnd⟩:=h.sp.ds;rw[hd] at hnd;obtain⟨Ds,e2⟩:=hdd;refine h.Ih (.deferred none) h1 rfl h3 rfl (λ_=>rfl) ⟨λB o hs=>?_,h.sp.base,h.sp.inj,Ds,e2,(Ye.1 hnd).2⟩
 have hs':Spc G.σ s.bs a.defers B o:=by
  rcases hs with hs|⟨hm,ho⟩
  .exact .inl hs
  .exact .inr ⟨by rw[hd];exact ZQ _ hm,ho⟩
 obtain⟨h4,h5,h6⟩:=h.sp.ob B o hs'
 have hne:B≠D:=λe=>by
  subst e;rcases hs with ⟨b,x,hb,e,ho⟩|⟨hm,ho⟩
  .exact x.Cs (h1.symm.trans (ho▸h4))
  .exact (Ye.1 hnd).1 hm
 exact⟨by rw[World.putObj_heap_other hne];exact h4,h5,h6⟩
theorem RS.leaves{fn:Func}{R:Ending->World->Prop}(hE:E.dd=[]):∀(ds:List Deferred) {a:Act} {w:World},RS E G s a w->a.defers=ds->
  (∀w',RS E G s ⟨a.tmps,[]⟩ w'->LeavesIn (F0 none) 0 P fn a.tmps R [] .returning w')->LeavesInM (F0 none) 0 P fn a.tmps R ds .returning w
 |[],a,w,h,hd,k=>k w (by rw[<-hd];exact h)
 |d::ds,a,w,h,hd,k=>by
  obtain⟨Ds,hDs,_⟩:=h.sp.ds;rw[hd,hE,Zv] at hDs
  cases Ds with
  |nil=>cases hDs
  |cons D Ds=>
   simp only[ZP,XG] at hDs;obtain⟨rfl,e⟩:=hDs;obtain⟨h1,h2⟩:=h.FY (P:=P) hd ⟨Ds,by rw[hE,Zv];exact e⟩
   exact⟨by simp,.inl ⟨D,_,rfl,h1,RS.leaves hE (a:=⟨a.tmps,ds⟩) ds h2 rfl k⟩⟩
theorem RS.reE{E':Entry}(h:RS E G s a w)(hfr:Fr E'.FP E'.M E'.w G.M w)(hm:∀B,E.FP B\/E.w.heap.size<=B->E'.FP B\/E'.w.heap.size<=B)(hnt:E'.nt=E.nt)(hnb:E'.nb=E.nb)(hσ:E'.σ0=E.σ0)(hdd:E'.dd=E.dd):RS E' G s a w:=
 ⟨hfr,h.ok,h.nt.trans hnt.symm,h.val,h.one,h.box,λb cs hb=>⟨(h.bmem b cs hb).1,hm _ (h.bmem b cs hb).2⟩,h.inj,λp z l hp=>by
  obtain⟨ad,k,h1,h2,h3⟩:=h.own p z l hp;refine⟨ad,k,h1,h2,?_⟩;rcases h3 with h3|⟨B,hB,h4,h5⟩
  .exact .inl h3
  .exact .inr ⟨B,hB,h4,h5.lt,h5.cells,h5.free,hm _ h5.mine⟩,h.clinj,h.clbox,λp B hB=>⟨(h.cllt p B hB).1,hm _ (h.cllt p B hB).2⟩,h.lo.trans hnb.symm,by rw[hnb];exact h.len,by rw[hnb,hσ];exact h.sig,by
  rw[hdd];exact h.sp.step (Hp.le_refl _) (λ_ _=>rfl) (λ_ _ k=>k) (λ_ _ k _=>k) (λ_ _ _ _ p k=>⟨p,k⟩) hm⟩
def All(G:Gh)(bs:List Box)(ds:List Deferred)(B:Nat):Prop:=(∃b cs,aa bs b=some cs/\G.σ b=B)\/(∃p,G.cl p=some B)\/(∃o,Spc G.σ bs ds B o)
theorem RS.J0(h:RS E G s a w):RS ⟨All G s.bs a.defers,G.M,w,E.nt,E.nb,E.σ0,E.dd⟩ G s a w:=
 ⟨Fr.refl _ _ _,h.ok,h.nt,h.val,h.one,h.box,λb cs hb=>⟨(h.bmem b cs hb).1,.inl (.inl ⟨b,cs,hb,rfl⟩)⟩,h.inj,λp z l hp=>by
  obtain⟨ad,k,h1,h2,h3⟩:=h.own p z l hp;refine⟨ad,k,h1,h2,?_⟩;rcases h3 with h3|⟨B,hB,h4,h5⟩
  .exact .inl h3
  .exact .inr ⟨B,hB,h4,h5.lt,h5.cells,h5.free,.inl (.inr (.inl ⟨p,hB⟩))⟩,h.clinj,h.clbox,λp B hB=>⟨(h.cllt p B hB).1,.inl (.inr (.inl ⟨p,hB⟩))⟩,h.lo,h.len,h.sig,
  ⟨λB o hs=>⟨(h.sp.ob B o hs).1,(h.sp.ob B o hs).2.1,.inl (.inr (.inr ⟨o,hs⟩))⟩,h.sp.base,h.sp.inj,h.sp.ds⟩⟩
theorem RS.HR(h:RS E G s a w){B:Nat}(hB:All G s.bs a.defers B):E.FP B\/E.w.heap.size<=B:=by
 rcases hB with ⟨b,cs,hb,rfl⟩|⟨p,hp⟩|⟨o,hs⟩
 .exact (h.bmem b cs hb).2
 .exact (h.cllt p B hp).2
 .exact (h.sp.ob B o hs).2.2
theorem RS.bZ{bs:List Box}{lo:Nat}(h0:RS E G ⟨[],bs,lo⟩ a w){env:List (Nat×AV)}(he:∀t y,ak env t=some y->RV G.M G.σ bs.length y (a.tmps.getD t undef)):RS E G ⟨env,bs,lo⟩ a w:=by
 have hat:∀p x,(⟨env,bs,lo⟩:St).at p=some x->(∃t,p=.sl t/\ak env t=some x)\/(∃b j,p=.bx b j/\(⟨[],bs,lo⟩:St).at (.bx b j)=some x):=λp x hp=>by
  cases p with
  |sl t=>exact .inl ⟨t,rfl,hp⟩
  |bx b j=>exact .inr ⟨b,j,rfl,hp⟩
 refine⟨h0.fr,h0.ok,h0.nt,λp x hp=>?_,λb j x hp=>h0.one b j x hp,h0.box,h0.bmem,h0.inj,λp z l hp=>?_,h0.clinj,h0.clbox,h0.cllt,h0.lo,h0.len,h0.sig,h0.sp⟩
 .rcases hat p x hp with ⟨t,rfl,ht⟩|⟨b,j,rfl,hx⟩
  .have h1:=he t x ht;show RV G.M G.σ bs.length x.aF (a.tmps.getD t undef);rw[h1.bP];exact h1
  .exact h0.val _ _ hx
 .rcases hat p _ hp with ⟨t,rfl,ht⟩|⟨b,j,rfl,hx⟩
  .have:=(he t _ ht).bP;simp[AV.aF] at this
  .exact h0.own _ _ _ hx
def nY(cl:Pl->Option Nat):Pl->Option Nat
 |.sl _=>none
 |.bx b j=>cl (.bx b j)
theorem RS.w6(h:RS E G s a w)(E':Entry)(a':Act)(hfr:Fr E'.FP E'.M E'.w G.M w)(hnt:a'.tmps.size=E'.nt)(lo:Nat)(hlo:lo=E'.nb)(hlen:E'.nb<=s.bs.length)(hsig:∀b,b<E'.nb->G.σ b=E'.σ0 b)
  (hmine:∀B,(dV G s.bs B)->E'.FP B\/E'.w.heap.size<=B) (hds:a'.defers=[]) (hdd:E'.dd=[]:=by rfl):RS E' {G with cl:=nY G.cl} ⟨[],s.bs,lo⟩ a' w:=by
 have hat:∀p x,(⟨[],s.bs,lo⟩:St).at p=some x->∃b j,p=.bx b j/\s.at (.bx b j)=some x:=λp x hp=>by
  cases p with
  |sl t=>simp[St.at,ak] at hp
  |bx b j=>exact⟨b,j,rfl,hp⟩
 have hcl:∀p B,nY G.cl p=some B->∃b j,p=.bx b j/\G.cl (.bx b j)=some B:=λp B hp=>by
  cases p with
  |sl t=>cases hp
  |bx b j=>exact⟨b,j,rfl,hp⟩
 refine⟨hfr,h.ok,hnt,λp x hp=>?_,λb j x hp=>?_,h.box,λb cs hb=>⟨(h.bmem b cs hb).1,hmine _ (.inl ⟨b,cs,hb,rfl⟩)⟩,h.inj,λp z l hp=>?_,λp q B hp hq=>?_,λp B hB b cs hb=>?_,λp B hB=>?_,hlo,hlen,hsig,?_⟩
 .obtain ⟨b,j,rfl,hx⟩:=hat p x hp;exact h.val _ _ hx
 .exact h.one b j x hp
 .obtain ⟨b,j,rfl,hx⟩:=hat p _ hp;obtain⟨ad,k,h1,h2,h3⟩:=h.own _ _ _ hx;refine⟨ad,k,h1,h2,?_⟩;rcases h3 with h3|⟨B,hB,h4,h5⟩
  .exact .inl h3
  .exact .inr ⟨B,hB,h4,h5.lt,h5.cells,h5.free,hmine B (.inr (.inl ⟨b,j,hB⟩))⟩
 .obtain ⟨b,j,rfl,hx⟩:=hcl p B hp;obtain⟨b',j',rfl,hx'⟩:=hcl q B hq;exact h.clinj _ _ B hx hx'
 .obtain ⟨b',j,rfl,hx⟩:=hcl p B hB;exact h.clbox _ B hx b cs hb
 .obtain ⟨b,j,rfl,hx⟩:=hcl p B hB;exact⟨(h.cllt _ B hx).1,hmine B (.inr (.inl ⟨b,j,hx⟩))⟩
 .rw [hds,hdd];refine⟨λB o hs=>?_,h.sp.base,h.sp.inj,[],rfl,.nil⟩;rcases hs with ⟨b,x,hb,e,ho⟩|⟨hmem,_⟩
  .obtain ⟨h1,h2,_⟩:=h.sp.ob B o (.inl ⟨b,x,hb,e,ho⟩);refine⟨h1,λp hp=>?_,hmine B (.inr (.inr ⟨b,x,hb,e⟩))⟩;obtain⟨b',j,rfl,hx⟩:=hcl p B hp;exact h2 _ hx
  .cases hmem
theorem dE{bs:List Box}{x:LB}(b:Nat):aa (bs++[.loop x]) b=aa bs b:=by
 rw[aS];split
 .rename_i e;subst e;simp[aa,Box.cs?]
 .rfl
theorem eH{bs:List Box}{x:LB}(b:Nat):ag (bs++[.loop x]) b=if b=bs.length then some x else ag bs b:=by
 simp only[ag]
 by_cases h:b<bs.length
 .rw [ZK h,if_neg (by omega)]
 .by_cases h2:b=bs.length
  .subst h2;simp[Box.lb?]
  .rw [if_neg h2,ZR (by simp;omega),ZR (by omega)]
theorem RS.IL(h:RS E G s a w)(r:Loop):
  RS E ⟨G.M,λb=>if b=s.bs.length then w.heap.size+1 else G.σ b,G.cl⟩ ⟨s.env,s.bs++[.loop ⟨G.M,G.σ,s.bs.length,r,none⟩],s.lo⟩ ⟨a.tmps,mark w.heap.size::a.defers⟩ ((w.alloc (.deferred (some []))).alloc (.loop r)):=by
 have hw:∀B,B<w.heap.size->((w.alloc (.deferred (some []))).alloc (.loop r)).heap[B]? =w.heap[B]?:=λB hB=>(Below.heap_alloc _ _ _ (by simp;omega)).trans (Below.heap_alloc _ _ _ hB)
 have hg:=h.grow (M':=G.M) (w':=(w.alloc (.deferred (some []))).alloc (.loop r)) ⟨rfl,rfl,rfl,by simp;omega,Hp.le_refl _,λB hB _=>hw B hB,λ_ _ _ _=>rfl⟩ (λb o v hv=>by
  have:=h.ok b o v hv;simp only[Hp.of] at this|-;rw[bK (hw b (Hp.lt h.ok hv))];exact this)
 have hsz:E.w.heap.size<=w.heap.size:=h.fr.size
 have hL:((w.alloc (.deferred (some []))).alloc (.loop r)).heap[w.heap.size+1]? =some (.loop r):=by
  have:=World.alloc_heap_new (w.alloc (.deferred (some []))) (.loop r)
  rwa [World.size_alloc] at this
 have hD:((w.alloc (.deferred (some []))).alloc (.loop r)).heap[w.heap.size]? =some (.deferred (some [])):=(Below.heap_alloc _ _ _ (by simp)).trans (World.alloc_heap_new w _)
 generalize (w.alloc (.deferred (some []))).alloc (.loop r)=w' at*
 have hat:∀p,(⟨s.env,s.bs++[.loop ⟨G.M,G.σ,s.bs.length,r,none⟩],s.lo⟩:St).at p=s.at p:=λp=>by
  cases p with
  |sl t=>rfl
  |bx b j=>simp only[St.at,dE]
 have hσ:∀b,b<s.bs.length->(if b=s.bs.length then w.heap.size+1 else G.σ b)=G.σ b:=λb hb=>by rw[if_neg (by omega)]
 have hval:∀p x,s.at p=some x->al (λb=>if b=s.bs.length then w.heap.size+1 else G.σ b) ⟨a.tmps,mark w.heap.size::a.defers⟩ w' p=al G.σ a w' p:=λp x hp=>by
  cases p with
  |sl t=>rfl
  |bx b j=>
   simp only[St.at] at hp
   cases hb:aa s.bs b with
   |none=>rw[hb] at hp;cases hp
   |some cs=>simp only[al];rw[hσ b (aA hb)]
 have hnocl:∀B,w.heap.size<=B->∀p,G.cl p≠some B:=λB hB p hp=>by
  have:=(h.cllt p B hp).1;omega
 refine⟨hg.fr,hg.ok,h.nt,λp x hp=>?_,λb j x hp=>?_,λb cs hb=>?_,λb cs hb=>?_,λb b' cs cs' hb hb' e=>?_,λp z l hp=>?_,h.clinj,λp B hB b cs hb=>?_,hg.cllt,h.lo,by simp only[ZC];exact Nat.le_add_right_of_le h.len,λb hb=>?_,?_⟩
 .rw [hat] at hp;rw[hval p x hp];exact(hg.val p x hp).mono (Hp.le_refl _) (by simp) hσ
 .rw [hat] at hp;rw[hval _ x hp];exact hg.one b j x hp
 .rw [dE] at hb;simp only[hσ b (aA hb)];exact hg.box b cs hb
 .rw [dE] at hb;simp only[hσ b (aA hb)];exact hg.bmem b cs hb
 .rw [dE] at hb hb';simp only[hσ b (aA hb),hσ b' (aA hb')] at e;exact h.inj b b' cs cs' hb hb' e
 .rw [hat] at hp;rw[hval p _ hp];exact hg.own p z l hp
 .rw [dE] at hb;simp only[hσ b (aA hb)];exact h.clbox p B hB b cs hb
 .have:=h.len;simp only[hσ b (by omega)]
  exact h.sig b hb
 .have hold:∀b x,ag s.bs b=some x->G.σ b<w.heap.size:=λb x hb=>(Zh.1 (h.sp.ob _ _ (.inl ⟨b,x,hb,rfl,rfl⟩)).1).1;obtain⟨Ds,hDs,hnd⟩:=h.sp.ds;refine⟨λB o hs=>?_,λb x hb=>?_,λb b' x x' hb hb' e=>?_,w.heap.size::Ds,by simp[hDs],Ye.2 ⟨λhm=>?_,hnd⟩⟩
  .rcases hs with ⟨b,x,hb,e,rfl⟩|⟨hm,rfl⟩
   .rw [eH] at hb;split at hb
    .rename_i eb;cases hb;simp only[eb,if_true] at e;subst e;exact⟨hL,hnocl _ (by omega),.inr (by omega)⟩
    .simp only at e;rw[hσ b (aO hb)] at e;exact hg.sp.ob B _ (.inl ⟨b,x,hb,e,rfl⟩)
   .rcases ZI.1 hm with hm|hm
    .have:=GZ hm;subst this;exact⟨hD,hnocl _ (ZG _),.inr hsz⟩
    .exact hg.sp.ob B _ (.inr ⟨hm,rfl⟩)
  .rw [eH] at hb;split at hb
   .rename_i eb;cases hb;exact⟨Hp.le_refl _,by simp only;omega,λc hc=>hσ c hc⟩
   .obtain ⟨h1,h2,h3⟩:=h.sp.base b x hb;have:=aO hb;exact⟨h1,h2,λc hc=>(hσ c (by omega)).trans (h3 c hc)⟩
  .rw [eH] at hb hb';split at hb
   .rename_i eb;split at hb'
    .rename_i eb';rw[eb,eb']
    .have:=hold b' x' hb';simp only at e;rw[hσ b' (aO hb'),if_pos eb] at e;omega
   .split at hb'
    .rename_i eb';have:=hold b x hb;simp only at e;rw[hσ b (aO hb),if_pos eb'] at e;omega
    .simp only[hσ b (aO hb),hσ b' (aO hb')] at e;exact h.sp.inj b b' x x' hb hb' e
  .have h1:=(h.sp.ob w.heap.size _ (.inr ⟨hm,rfl⟩)).1;have:=(Zh.1 h1).1;omega
def LB.done(x:LB)(c:Code):LB:={x with r:={x.r with state:=.done,pending:=some c}}
def tu(x:LB)(b:Nat)(Q:AV->List Box->Prop):AX->St->Prop
 |.normal,s=>Q (.bool true) (s.bs.set b (.loop x))
 |.ret,s=>Q (.bool false) (s.bs.set b (.loop (x.done .ret)))
 |.exit id,s=>Q (.bool false) (s.bs.set b (.loop (x.done (.exit id))))
def lF:List (Nat×AV)->List Nat->List AV->List (Nat×AV)
 |e,p::ps,v::vs=>lF (aN e p v) ps vs
 |e,_,_=>e
def eF:List (Nat×AV)->List (Nat×AV)
 |[]=>[]
 |(t,v)::r=>(t,v.aF)::eF r
theorem qp:∀(e:List (Nat×AV)) (t:Nat) (y:AV),ak (eF e) t=some y->∃x,ak e t=some x/\y=x.aF
 |[],t,y,h=>by cases h
 |(k,v)::r,t,y,h=>by
  simp only[eF,ak] at h|-
  cases hb:Nat.beq k t with
  |true=>rw[hb] at h;cases h;exact⟨v,rfl,rfl⟩
  |false=>rw[hb] at h;exact qp r t y h
theorem xc{M:Hp}{σ:Nat->Nat}{n:Nat}:∀(ps:List Nat) (vals:List AV) (args:List Value) (env:List (Nat×AV)) (tmps:Array Value),args.length=vals.length->(∀p∈ps,p<tmps.size)->
  (∀t y,ak env t=some y->RV M σ n y (tmps.getD t undef))->(∀j (h:j<vals.length) v,args[j]? =some v->RV M σ n vals[j] v)->
  (∀t y,ak (lF env ps vals) t=some y->RV M σ n y (((ps.zip args).foldl (λt (p,v)=>t.setIfInBounds p v) tmps).getD t undef))/\((ps.zip args).foldl (λt (p,v)=>t.setIfInBounds p v) tmps).size=tmps.size
 |[],vals,args,env,tmps,_,_,h,_=>by cases vals<;>exact⟨h,rfl⟩
 |p::ps,[],[],env,tmps,_,_,h,_=>⟨h,rfl⟩
 |p::ps,v::vals,u::args,env,tmps,hl,hp,h,hv=>by
  have hsz:(tmps.setIfInBounds p u).size=tmps.size:=by simp
  have:=xc ps vals args (aN env p v) (tmps.setIfInBounds p u) (by simpa using hl) (λq hq=>by rw[hsz];exact hp q (ZQ _ hq)) (λt y hy=>by
   rw[eZ] at hy;split at hy
   .rename_i e;subst e;cases hy
    have:(tmps.setIfInBounds t u).getD t undef=u:=by
     have:=hp t (by simp)
     simp[this]
    rw[this];exact hv 0 (by simp) u (by simp)
   .rename_i e
    have:(tmps.setIfInBounds p u).getD t undef=tmps.getD t undef:=by
     simp[ZW (Ne.symm e)]
    rw[this];exact h t y hy) (λj hj v' hv'=>hv (j+1) (by simp;omega) v' (by simpa using hv'))
  simp only[lF,List.zip_cons_cons,List.foldl_cons]
  exact⟨this.1,this.2.trans hsz⟩
 |p::ps,[],u::args,env,tmps,hl,_,_,_=>by simp at hl
 |p::ps,v::vals,[],env,tmps,hl,_,_,_=>by simp at hl
theorem fJ{bs:List Box}{b:Nat}(x:LB)(hb:b<bs.length)(c:Nat):ag (bs.set b (.loop x)) c=if c=b then some x else ag bs c:=by
 simp only[ag,Zq]
 by_cases e:b=c
 .subst e;simp[hb,Box.lb?]
 .rw [if_neg e,if_neg (λk=>e k.symm)]
theorem cE{bs:List Box}{b:Nat}(c:Nat):ag (bs.set b .dead) c=if c=b then none else ag bs c:=by
 simp only[ag,Zq]
 by_cases e:b=c
 .subst e
  by_cases hb:b<bs.length
  .simp [hb,Box.lb?]
  .simp [hb]
 .rw [if_neg e,if_neg (λk=>e k.symm)]
theorem nI{bs:List Box}{b:Nat}{y:Box}(hy:y.cs? =none)(hb:aa bs b=none)(c:Nat):aa (bs.set b y) c=aa bs c:=by
 by_cases e:b=c
 .subst e;rw[hb];simp only[aa,Zq]
  by_cases hl:b<bs.length
  .simp only[if_true,hl];exact hy
  .simp [hl]
 .simp only[aa,Zq,if_neg e]
theorem rP{bs:List Box}{b:Nat}{x:LB}(h:ag bs b=some x):aa bs b=none:=by
 simp only[ag,aa] at*;split at h
 .rename_i y e;cases y<;>first|rfl|(cases h;done)|skip
 .cases h
end
end Go.AM
