/-
  By an AI agent.
-/
import Derived.Test.YtcjfkbdbcgmomaaGreatDoorQal
set_option linter.unusedSimpArgs false
set_option linter.unusedVariables false
namespace Go.AM
open Go.CK Go.RowKit
def qO(ops:Array Oper)(rs:List ROp)(pi cs ms:List Nat):Bool:=Jt rs pi&&jy ops.toList 0&&(uZ pi&&(oa pi ops.size&&sH rs cs ms [] pi))
def wG(ops:Array Oper)(ms:List Nat)(Inv:Array Bool->Prop):Prop:=∀listed:Array Bool,mE ops (λi=>listed.getD i false=true)->Inv listed->∀i o,i<ops.size->ops[i]? =some o->(∀e∈o.after,Region.binds .any e=true->listed.getD e.on false=true)->∀k,(ms.getD i 0).testBit k=true->listed.getD k false=true
theorem CP{ops:Array Oper}(Inv:Array Bool->Prop):wG ops (aQ [] ops.toList) Inv:=λlisted f _ i o g d a k hb=>by
 have b:i<(aQ [] ops.toList).length:=by rw[hH];simpa using g
 exact me f (os:=ops.toList) (acc:=[]) (λj o' e=>by simpa using e) (λi m o' hm=>by simp at hm) (λi c=>by simp at c) i ((aQ [] ops.toList).getD i 0) o (by simp[zA b]) d a k hb
def nI(ms:List Nat)(x y:Nat):List Nat:=ms.set y (ms.getD y 0|||(1<<<x))
theorem xT{ops:Array Oper}{ms:List Nat}{x y:Nat}(h:wG ops ms λ_=>True):wG ops (nI ms x y) λl=>l.getD x false=true:=λlisted f e i o g d a k hb=>by
 by_cases hk:k=x
 .subst hk;exact e
 .refine h listed f trivial i o g d a k ?_;simp only[nI,List.getD_eq_getElem?_getD] at hb|-
  by_cases c:i=y
  .subst c
   by_cases b:i<ms.length
   .simp only[List.getElem?_set_self b,ZS,Nat.testBit_or,ZM] at hb;rcases hb with hb|hb
    .exact hb
    .exfalso;rw[Nat.one_shiftLeft,Nat.testBit_two_pow] at hb;exact hk (by simpa using hb:x=k).symm
   .rw [List.set_eq_of_length_le (by omega)] at hb;exact hb
  .rwa [Ze (Ne.symm c)] at hb
section
variable{P:Program}{nt:Nat}{fl:Bool}{ops:Array Oper}{rs:List ROp}{cs pi:List Nat}{E:Entry}{rd:Option Nat}{n:Nat}
theorem Ae{K:St->Prop}{V ms:List Nat}{listed:Array Bool}{s:St}{i:Nat}{r:ROp}(I:pi.Pairwise (Ssa rs))(H:∀k∈pi,Ssa rs k k)(hV:∀k∈pi,cs.getD k 0=0->∀x,rs[k]? =some x->x.rx.looks=true->∀t∈slotsOf x.rx.bp,t∈V)
  (U:pi.Nodup) (Q:i∈pi) (C:sH rs cs ms [] pi=true) (hl:i<listed.size) (h2:listed.getD i true=false) (hr:rs[i]? =some r)
  (hm:∀k,(ms.getD i 0).testBit k=true->listed.getD k false=true) (hex:iv P rs cs V (pi.filter λk=>!listed.getD k true) s K):
  ∃R K1,r.run P R s K1/\∀s1,K1 s1->iv P rs cs V (pi.filter λk=>!(listed.setIfInBounds i true).getD k true) s1 K:=by
 obtain⟨A,B,u⟩:=List.append_of_mem Q;have p:=U;rw[u] at p;obtain⟨e1,e3⟩:=Ag (λk=>!listed.getD k true) i p (by simp[h2])
 rw[<-u] at e1 e3;obtain⟨pre,j⟩:∃pre,pre=A.filter λk=>!listed.getD k true:=⟨_,rfl⟩;obtain⟨post,q⟩:∃post,post=B.filter λk=>!listed.getD k true:=⟨_,rfl⟩;rw[<-j,<-q] at e1 e3
 have Y:∀k,listed.getD k true=false->listed.getD k false=false:=λk hk=>by
  simp only[zT] at hk|-
  cases hq:listed[k]? with
  |none=>rw[hq] at hk;cases hk
  |some b=>rw[hq] at hk;simpa using hk
 have l:iv P rs cs V (pre++i::post) s K:=by rw[<-e1];exact hex
 have N:∀k∈A,Cu rs cs (ms.getD i 0) i k=true:=λk hk=>uh (A:=A) (B:=B) (by rw[<-u];exact C) k (.inl hk)
 have o:∀k∈pre,cs.getD k 0=0/\match cs.getD i 0 with
   |0=>∀x y,rs[k]? =some x->rs[i]? =some y->indep x y=true
   |1=>False
   |_+2=>∀x y,rs[k]? =some x->rs[i]? =some y->Dx x y=true:=λk hk=>by
  rw[j,zo] at hk;obtain⟨X,W⟩:=hk;have hp:=N k X;simp only[Cu,ZM,zD] at hp;rcases hp with hb|⟨Z,d⟩
  .exfalso;have:=hm k hb;have F:=Y k (by simpa using W)
   rw[F] at this;cases this
  .refine ⟨zO Z,?_⟩;revert d
   cases hx:rs[k]? with
   |none=>intro d;cases d
   |some x=>
    rw[hr]
    cases cs.getD i 0 with
    |zero=>exact λd x' y' z w=>by cases z;cases w;exact d
    |succ c=>
     cases c with
     |zero=>exact λd=>by cases d
     |succ c=>exact λd x' y' z w=>by cases z;cases w;exact d
 obtain⟨R,K1,M,D⟩:∃R K1,r.run P R s K1/\∀s1,K1 s1->iv P rs cs V (pre++post) s1 K:=by
  have g:∀k∈pre,cs.getD k 0=0:=λk hk=>(o k hk).1;have a:=λk hk=>(o k hk).2
  cases m:cs.getD i 0 with
  |zero=>
   rw[m] at a
   obtain⟨sm,G,F⟩:=uf (pre:=pre++[i]) (post:=post) (λk hk=>by
    rcases zY.1 hk with v|v
    .exact g k v
    .simp at v;rw[v];exact m) (by simpa using l)
   obtain⟨s1,⟨r',f,v⟩,h6⟩:=front G a;rw[hr] at f;cases f;refine⟨true,_,v,λs2 e=>?_⟩;subst e
   exact rk g (by simpa using h6) F
  |succ c=>
   cases c with
   |zero=>
    rw[m] at a
    cases O:pre with
    |cons k0 pre'=>exact(a k0 (by rw[O];simp)).elim
    |nil=>
     rw[O] at l;obtain⟨r',f,G⟩:=l;rw[hr] at f;cases f;rw[m] at G
     exact⟨_,_,G,λs1 F=>F⟩
   |succ c=>
    rw[m] at a;obtain⟨sm,G,F⟩:=uf (pre:=pre) (post:=i::post) g l;obtain⟨r',f,v⟩:=F;rw[hr] at f;cases f;rw[m] at v
    have n:pre.Sublist pi:=by
     rw[u,j];exact List.filter_sublist.trans (List.sublist_append_left _ _)
    have h3':=Dm (V:=V) G (I.sublist n) (λk hk=>H k (n.subset hk)) (λk hk=>hV k (n.subset hk) (g k hk));have h6:=Dn (i:=i) h3' (λk hk x hx=>a k hk x r hx hr) (ROp.mono (λs' L=>⟨Ee.h L,Ee.k L⟩) v);exact⟨false,_,h6,λs1 ⟨_,s2,h7,h8⟩=>rk g h7 h8⟩
 refine⟨R,K1,M,λs1 S=>?_⟩
 have J:(pi.filter λk=>!(listed.setIfInBounds i true).getD k true)=pre++post:=by
  rw[<-e3];refine Zm λk hk=>?_
  by_cases E:k=i
  .subst E;simp[hl]
  .have T:(k==i)=false:=by simpa using E
   simp[zW (Ne.symm E),T]
 rw[J];exact D s1 S
theorem su{K:St->Prop}{ms V:List Nat}(hV:∀k∈pi,cs.getD k 0=0->∀x,rs[k]? =some x->x.rx.looks=true->∀t∈slotsOf x.rx.bp,t∈V)(Inv:Array Bool->Prop)(hinv:∀l i,Inv l->Inv (l.setIfInBounds i true))(hms:wG ops ms Inv)(hc:∀(i:Nat) (o:Oper),ops[i]? =some o->∃r,rs[i]? =some r/\OpC P nt ops o r)(hi:qO ops rs pi cs ms=true){Q:Exit->Act->World->Prop}(hnt:E.nt=nt):
  ∀(fuel:Nat) (listed:Array Bool) (s:St) (G:Gh) (a:Act) (w:World),listed.size=ops.size->(aB ops listed).length<=fuel->mE ops (λi=>listed.getD i false=true)->Inv listed->iv P rs cs V (pi.filter λk=>!listed.getD k true) s K->RS E G s a w->
   (∀s' G' a' w',K s'->RS E G' s' a' w'->Q .normal a' w')->wpAnyIn (F0 rd) n P .any ops Q fuel listed a w:=by
 simp only[qO,zD] at hi;obtain⟨⟨N,A⟩,J,v,H⟩:=hi;obtain⟨R,O⟩:=oh N;have J:=jv J;have v:=fA v
 have d:∀(listed:Array Bool) i,listed.size=ops.size->i∈Region.ready .any ops listed->i<ops.size/\listed.getD i true=false/\∃o,ops[i]? =some o/\∀e∈o.after,Region.binds .any e=true->listed.getD e.on false=true:=λlisted i m h=>by
  simp only[Region.ready,zo,zd,zD,zb] at h;obtain⟨c,M,h3⟩:=h;refine⟨c,M,ops[i],zi c,λe he hb=>?_⟩;rw[zi c] at h3;simp only[zM,ZS,ZO,ZM,zb] at h3;rcases h3 e he with h4|h4
  .rw [hb] at h4;cases h4
  .exact h4
 --what is listed in π is what there is
 have U:∀(listed:Array Bool),listed.size=ops.size->aB ops listed=[]->(pi.filter λk=>!listed.getD k true)=[]:=λlisted m h=>by
  refine List.filter_eq_nil_iff.2 λk hk=>?_;intro y;simp only[zb] at y
  have L:k<ops.size:=by
   rcases zt k ops.size with c|c
   .exact c
   .rw [zT,Zh (by omega)] at y;cases y
  have:k∈aB ops listed:=by simp only[aB,zo,zd];exact⟨L,by simp[y]⟩
  rw[h] at this;cases this
 intro fuel
 induction fuel with
 |zero=>
  intro listed s G a w m hlen hD hI hex hs hQ;have f:aB ops listed=[]:=ZV.1 (by omega)
  rw[U listed m f] at hex;refine⟨?_,hQ s G a w hex hs⟩;rcases T:Region.ready .any ops listed with _|⟨i,_⟩
  .rfl
  .obtain ⟨c,M,_⟩:=d listed i m (by rw[T];simp)
   have:i∈aB ops listed:=by simp only[aB,zo,zd];exact⟨c,by simp[M]⟩
   rw[f] at this;cases this
 |succ fuel ih=>
  intro listed s G a w m hlen hD hI hex hs hQ;refine⟨λhr=>?_,λi hi'=>?_⟩
  .have f:aB ops listed=[]:=by
    rcases T:aB ops listed with _|⟨i,l⟩
    .rfl
    .exfalso;have q:(aB ops listed).Pairwise (·<·):=List.pairwise_lt_range.filter _;rw[T] at q;have z:=(ZA.1 q).1;have b:i∈aB ops listed:=by rw[T];simp
     simp only[aB,zo,zd,zb] at b
     have Y:i∈Region.ready .any ops listed:=by
      simp only[Region.ready,zo,zd,zD,zb];refine⟨b.1,b.2,?_⟩;rw[zi b.1];simp only[zM,ZS,ZO,ZM,zb];intro e he
      cases hb:Region.binds .any e with
      |false=>exact .inl rfl
      |true=>
       have L:=eG A i ops[i] (by simp[b.1]) e he hb
       rw[ZI] at L;refine .inr ?_
       cases hlk:listed.getD e.on false with
       |true=>rfl
       |false=>
        exfalso
        have W:listed.getD e.on true=false:=by
         have hsz:e.on<listed.size:=by rw[m];omega
         simpa[hsz] using hlk
        have D:e.on∈aB ops listed:=by
         simp only[aB,zo,zd,zb];exact⟨by omega,W⟩
        rw[T] at D;rcases zI.1 D with h5|h5
        .omega
        .have:=z _ h5;omega
     rw[hr] at Y;cases Y
   rw[U listed m f] at hex;exact hQ s G a w hex hs
  .obtain ⟨c,M,o,ho,C⟩:=d listed i m hi';obtain⟨r,hr,hoc⟩:=hc i o ho;obtain⟨dr,K1,S,I⟩:=Ae R O hV J (v i c) H (by rw[m];exact c) M hr (λk hk=>hms listed hD hI i o c ho C k hk) hex
   refine iL hoc ho S hs hnt λs' G' a' w' hs1 hs' _=>?_;have b:i∈List.range ops.size:=by simpa using c
   obtain⟨B,p,f1,f2,f3⟩:=eE (λk=>!listed.getD k true) i (List.range ops.size) b (by simp[M]) yO
   have F:aB ops (listed.setIfInBounds i true)=B++p:=by
    rw[<-f3];unfold aB;refine Zm λk hk=>?_
    by_cases g:k=i
    .subst g;have:k<listed.size:=by rw[m];exact c
     simp[this]
    .have hne:(k==i)=false:=by simpa using g
     simp[zW (Ne.symm g),hne]
   refine ih _ _ G' a' w' (by simpa using m) ?_ ?_ (hinv _ _ hI) (I _ hs1) hs' hQ
   .rw [F];have:(aB ops listed).length=(B++i::p).length:=by rw[<-f1];rfl
    simp at this|-;omega
   .intro j oj hj Z e he hb
    have u:∀k,listed.getD k false=true->(listed.setIfInBounds i true).getD k false=true:=λk hk=>by
     by_cases g:k=i
     .subst g;have:k<listed.size:=by rw[m];exact c
      simp[this]
     .simp only[zT] at hk|-;rw[zW (Ne.symm g)];exact hk
    by_cases X:j=i
    .subst X;rw[ho] at hj;cases hj;exact u _ (C e he hb)
    .refine u _ (hD j oj hj ?_ e he hb);simp only[zT] at Z|-
     rwa [zW (Ne.symm X)] at Z
theorem WP.Cg(hm:P.follows .mixedOrders=true){id:Nat}{e:Nat->Nat->Bool}(k:qX P nt e ops ops.toList=some rs)(c:x5 ops rs pi cs=true){q:List (Nat×ROp)}(b:cH rs cs pi=some q){s:St}{Q:AX->St->Prop}(h:iV P (iY q) q s (Q .normal)):WP P nt fl (.region id ops true) s Q:=λE G a w rd n hs he=>by
 obtain⟨t,r⟩:=iq k;have p:=fe b h;refine wpIn_region_any hm ?_;refine su (V:=iY q) (ff b) (λ_=>True) (λ_ _ _=>trivial) (CP _) (λi o g=>r i o (by simpa using g)) c he.1 ops.size _ s G a _ (by simp) ?_ ?_ trivial ?_ hs.drew λf G' u w' m l=>⟨.normal,f,G',rfl,m,l⟩
 .exact ZN (Zy _ _) (by simp)
 .intro i o _ d;simp only[zT,yE] at d;split at d<;>cases d
 .rw [yC.2]
  .exact p
  .intro i c;have j:=iU b i c;have hlen:rs.length=ops.size:=by simpa using t.symm
   simp[show i<ops.size by omega]
theorem nf{V:List Nat}{K:St->Prop}:∀{pre post:List Nat} {s:St},iv P rs cs V pre s (λsm=>iv P rs cs V post sm K)->iv P rs cs V (pre++post) s K
 |[],post,s,h=>h
 |k::pre,post,s,⟨r,hr,h⟩=>by
  refine⟨r,hr,?_⟩;revert h
  cases cs.getD k 0 with
  |zero=>exact λh=>ROp.mono (λb a=>nf a) h
  |succ c=>
   cases c with
   |zero=>exact λh=>ROp.mono (λb a=>nf a) h
   |succ c=>exact λh=>ROp.mono (λb a=>⟨a.h,nf a.k⟩) h
theorem kM{V:List Nat}{K K':St->Prop}(hk:∀x,K x->K' x):∀{pre:List Nat} {s:St},iv P rs cs V pre s K->iv P rs cs V pre s K'
 |[],s,h=>hk _ h
 |k::pre,s,⟨r,hr,h⟩=>by
  refine⟨r,hr,?_⟩;revert h
  cases cs.getD k 0 with
  |zero=>exact λh=>ROp.mono (λb a=>kM hk a) h
  |succ c=>
   cases c with
   |zero=>exact λh=>ROp.mono (λb a=>kM hk a) h
   |succ c=>exact λh=>ROp.mono (λb a=>⟨a.h,kM hk a.k⟩) h
def GM(ms:List Nat)(x y:Nat):List Nat->Bool
 |[]=>true
 |i::l=>(Nat.beq i x||Nat.beq i y||(ms.getD i 0).testBit x||(ms.getD i 0).testBit y)&&GM ms x y l
theorem vn{ms:List Nat}{x y:Nat}:∀{l:List Nat},GM ms x y l=true->∀i∈l,i=x\/i=y\/(ms.getD i 0).testBit x=true\/(ms.getD i 0).testBit y=true
 |[],_,i,b=>by cases b
 |k::l,h,i,b=>by
  simp only[GM,zD,ZM] at h;rcases zI.1 b with rfl|b
  .rcases h.1 with ((a|a)|a)|a
   .exact .inl (zO a)
   .exact .inr (.inl (zO a))
   .exact .inr (.inr (.inl a))
   .exact .inr (.inr (.inr a))
  .exact vn h.2 i b
def aX(a c b:List (Nat×ROp)):List Nat:=iY a++(iY c++iY b)
def Bu(ops:Array Oper)(rs:List ROp)(cs A:List Nat)(x y:Nat)(B1 B2:List Nat):Bool:=
 qO ops rs (A++x::B1) cs (nI (aQ [] ops.toList) x y)&&(qO ops rs (A++y::B2) cs (nI (aQ [] ops.toList) y x)&&(sH rs cs (aQ [] ops.toList) [] A&&(!(Nat.beq x y)&&GM (aQ [] ops.toList) x y B1)))
theorem qw{ms:List Nat}{x y i:Nat}(h:i≠y):(nI ms x y).getD i 0=ms.getD i 0:=by
 simp only[nI,List.getD_eq_getElem?_getD];rw[Ze (Ne.symm h)]
theorem DW{listed:Array Bool}(d:jy ops.toList 0=true)(r:listed.size=ops.size)(hr:Region.ready .any ops listed=[])(m:∃x,x∈aB ops listed):False:=by
 rcases j:aB ops listed with _|⟨i,l⟩
 .obtain ⟨x,p⟩:=m;rw[j] at p;cases p
 .have b:(aB ops listed).Pairwise (·<·):=List.pairwise_lt_range.filter _;rw[j] at b;have c:=(ZA.1 b).1;have a:i∈aB ops listed:=by rw[j];simp
  simp only[aB,zo,zd,zb] at a
  have h:i∈Region.ready .any ops listed:=by
   simp only[Region.ready,zo,zd,zD,zb];refine⟨a.1,a.2,?_⟩;rw[zi a.1];simp only[zM,ZS,ZO,ZM,zb];intro e he
   cases hb:Region.binds .any e with
   |false=>exact .inl rfl
   |true=>
    have n:=eG d i ops[i] (by simp[a.1]) e he hb
    rw[ZI] at n;refine .inr ?_
    cases o:listed.getD e.on false with
    |true=>rfl
    |false=>
     exfalso
     have g:listed.getD e.on true=false:=by
      have k:e.on<listed.size:=by rw[r];omega
      simpa[k] using o
     have f:e.on∈aB ops listed:=by
      simp only[aB,zo,zd,zb];exact⟨by omega,g⟩
     rw[j] at f;rcases zI.1 f with q|q
     .omega
     .have:=c _ q;omega
  rw[hr] at h;cases h
theorem DX{listed:Array Bool}{i fuel:Nat}(h:listed.size=ops.size)(g:i<ops.size)(j:listed.getD i true=false)(hlen:(aB ops listed).length<=fuel+1):(aB ops (listed.setIfInBounds i true)).length<=fuel:=by
 have e:i∈List.range ops.size:=by simpa using g
 obtain⟨b,a,f1,f2,f3⟩:=eE (λk=>!listed.getD k true) i (List.range ops.size) e (by simp[j]) yO
 have c:aB ops (listed.setIfInBounds i true)=b++a:=by
  rw[<-f3];unfold aB;refine Zm λk hk=>?_
  by_cases d:k=i
  .subst d;have:k<listed.size:=by rw[h];exact g
   simp[this]
  .have f:(k==i)=false:=by simpa using d
   simp[zW (Ne.symm d),f]
 rw[c];have:(aB ops listed).length=(b++i::a).length:=by rw[<-f1];rfl
 simp at this|-;omega
theorem wz{listed:Array Bool}{i:Nat}{o:Oper}(m:listed.size=ops.size)(p:i<ops.size)(l:ops[i]? =some o)(b:∀e∈o.after,Region.binds .any e=true->listed.getD e.on false=true)(n:mE ops (λi=>listed.getD i false=true)):mE ops (λj=>(listed.setIfInBounds i true).getD j false=true):=by
 intro j h g f e he hb
 have a:∀k,listed.getD k false=true->(listed.setIfInBounds i true).getD k false=true:=λk hk=>by
  by_cases c:k=i
  .subst c;have:k<listed.size:=by rw[m];exact p
   simp[this]
  .simp only[zT] at hk|-;rw[zW (Ne.symm c)];exact hk
 by_cases d:j=i
 .subst d;rw[l] at g;cases g;exact a _ (b e he hb)
 .refine a _ (n j h g ?_ e he hb);simp only[zT] at f|-
  rwa [zW (Ne.symm d)] at f
theorem Li{K:St->Prop}{A B1 B2 V:List Nat}{x y:Nat}(hV:∀k∈A++x::B1++(A++y::B2),cs.getD k 0=0->∀z,rs[k]? =some z->z.rx.looks=true->∀t∈slotsOf z.rx.bp,t∈V)(hc:∀(i:Nat) (o:Oper),ops[i]? =some o->∃r,rs[i]? =some r/\OpC P nt ops o r)(hi:Bu ops rs cs A x y B1 B2=true){Q:Exit->Act->World->Prop}(I:E.nt=nt):
  ∀(fuel:Nat) (listed:Array Bool) (s:St) (G:Gh) (a:Act) (w:World),listed.size=ops.size->(aB ops listed).length<=fuel->mE ops (λi=>listed.getD i false=true)->(∀i,i∈x::B1\/i∈y::B2->listed.getD i true=false)->
   iv P rs cs V (A.filter λk=>!listed.getD k true) s (λsA=>iv P rs cs V (x::B1) sA K/\iv P rs cs V (y::B2) sA K)->RS E G s a w->
   (∀s' G' Z w',K s'->RS E G' s' Z w'->Q .normal Z w')->wpAnyIn (F0 rd) n P .any ops Q fuel listed a w:=by
 simp only[Bu,zD,zb] at hi;obtain⟨hi1,hi2,hrA,M,hlate⟩:=hi;have M:x≠y:=λe=>by subst e;rw[show Nat.beq x x=true from by simp] at M;cases M
 have hI1:=hi1;have hI2:=hi2;simp only[qO,zD] at hi1 hi2;obtain⟨⟨hssa1,U⟩,q,g,O⟩:=hi1;obtain⟨⟨hssa2,_⟩,C,v,N⟩:=hi2;obtain⟨p1,p2⟩:=oh hssa1;obtain⟨p3,p4⟩:=oh hssa2;have q:=jv q;have C:=jv C;have g:=fA g;have v:=fA v;have hM:wG ops (aQ [] ops.toList) λ_=>True:=CP _
 have R:∀(listed:Array Bool) i,listed.size=ops.size->i∈Region.ready .any ops listed->i<ops.size/\listed.getD i true=false/\∃o,ops[i]? =some o/\∀e∈o.after,Region.binds .any e=true->listed.getD e.on false=true:=λlisted i J h=>by
  simp only[Region.ready,zo,zd,zD,zb] at h;obtain⟨f,h2,h3⟩:=h;refine⟨f,h2,ops[i],zi f,λe he hb=>?_⟩;rw[zi f] at h3;simp only[zM,ZS,ZO,ZM,zb] at h3;rcases h3 e he with h4|h4
  .rw [hb] at h4;cases h4
  .exact h4
 have Y:∀(listed:Array Bool) (B:List Nat),(∀i∈B,listed.getD i true=false)->(B.filter λk=>!listed.getD k true)=B:=λlisted B h=>yC.2 λk hk=>by rw[h k hk];rfl
 intro fuel
 induction fuel with
 |zero=>
  intro listed s G a w J hlen hD hB hex hs hQ;exfalso;have W:=hB x (.inl (by simp))
  have hlt:x<ops.size:=by
   rcases zt x ops.size with f|f
   .exact f
   .rw [zT,Zh (by omega)] at W;cases W
  have:x∈aB ops listed:=by simp only[aB,zo,zd];exact⟨hlt,by simp[W]⟩
  have:=List.length_pos_of_mem this
  omega
 |succ fuel ih=>
  intro listed s G a w J hlen hD hB hex hs hQ;have W:=hB x (.inl (by simp))
  have hy:=hB y (.inr (by simp))
  have hgd:∀k,listed.getD k true=false->listed.getD k false=false:=λk hk=>by
   simp only[zT] at hk|-
   cases hq:listed[k]? with
   |none=>rw[hq] at hk;cases hk
   |some b=>rw[hq] at hk;simpa using hk
  have hltx:x<ops.size:=by
   rcases zt x ops.size with f|f
   .exact f
   .rw [zT,Zh (by omega)] at W;cases W
  have E1:iv P rs cs V ((A++x::B1).filter λk=>!listed.getD k true) s K:=by
   rw[yL,Y listed (x::B1) λi hi=>hB i (.inl hi)];exact nf (kM (λ_ h=>h.1) hex)
  have E2:iv P rs cs V ((A++y::B2).filter λk=>!listed.getD k true) s K:=by
   rw[yL,Y listed (y::B2) λi hi=>hB i (.inr hi)]
   exact nf (kM (λ_ h=>h.2) hex)
  --the part of what comes up:by the masks,as if one order alone were meant
  refine⟨λhr=>?_,λi hi'=>?_⟩
  .exact (DW U J hr ⟨x,by simp only[aB,zo,zd];exact⟨hltx,by simp[W]⟩⟩).elim
  .obtain ⟨f,h2,o,ho,X⟩:=R listed i J hi';obtain⟨r,hr,hoc⟩:=hc i o ho;have u:(aB ops (listed.setIfInBounds i true)).length<=fuel:=DX J f h2 hlen;have hD':mE ops (λj=>(listed.setIfInBounds i true).getD j false=true):=wz J f ho X hD;have hsz:(listed.setIfInBounds i true).size=ops.size:=by simpa using J
   have D:(listed.setIfInBounds i true).getD i false=true:=by
    have:i<listed.size:=by rw[J];exact f
    simp[this]
   have S:∀k,k≠i->(listed.setIfInBounds i true).getD k true=listed.getD k true:=λk hki=>by
    simp only[zT];rw[zW (Ne.symm hki)]
   have m:∀z (l:Array Bool) j,l.getD z false=true->(l.setIfInBounds j true).getD z false=true:=λz l j L=>by
    by_cases hzj:z=j
    .subst hzj
     by_cases hlt:z<l.size
     .simp [hlt]
     .simp only[zT] at L;rw[Zh (by omega)] at L;cases L
    .simp only[zT] at L|-;rw[zW (Ne.symm hzj)];exact L
   have d:∀k,((aQ [] ops.toList).getD i 0).testBit k=true->listed.getD k false=true:=λk hk=>hM listed hD trivial i o f ho X k hk
   by_cases T:i=x
   .subst T;obtain⟨dr,K1,p,c⟩:=Ae (ms:=nI (aQ [] ops.toList) i y) p1 p2 (λk hk=>hV k (ZB _ hk)) q (g i f) O (by rw[J];exact f) h2 hr (λk hk=>d k (by rwa [qw M] at hk)) E1
    refine iL hoc ho p hs I λs' G' Z w' F H _=>?_;exact su (V:=V) (λk hk=>hV k (ZB _ hk)) (λl=>l.getD i false=true) (λl j L=>m i l j L) (xT hM) hc hI1 I fuel _ _ G' Z w' hsz u hD' D (c _ F) H hQ
   .by_cases hiy:i=y
    .subst hiy;obtain⟨dr,K1,p,c⟩:=Ae (ms:=nI (aQ [] ops.toList) i x) p3 p4 (λk hk=>hV k (ZU _ hk)) C (v i f) N (by rw[J];exact f) h2 hr (λk hk=>d k (by rwa [qw T] at hk)) E2
     refine iL hoc ho p hs I λs' G' Z w' F H _=>?_;exact su (V:=V) (λk hk=>hV k (ZU _ hk)) (λl=>l.getD i false=true) (λl j L=>m i l j L) (xT hM) hc hI2 I fuel _ _ G' Z w' hsz u hD' D (c _ F) H hQ
    .have hiA:i∈A:=by
      rcases zY.1 (g i f) with h|h
      .exact h
      .rcases zI.1 h with h|h
       .exact (T h).elim
       .rcases vn hlate i h with h|h|h|h
        .exact (T h).elim
        .exact (hiy h).elim
        .have:=d x h;rw[hgd x W] at this;cases this
        .have:=d y h;rw[hgd y hy] at this;cases this
     obtain⟨dr,K1,p,c⟩:=Ae (ms:=aQ [] ops.toList) (List.pairwise_append.1 p1).1 (λk hk=>p2 k (ZB _ hk)) (λk hk=>hV k (ZB _ (ZB _ hk))) (List.nodup_append.1 q).1 hiA hrA (by rw[J];exact f) h2 hr d hex
     refine iL hoc ho p hs I λs' G' Z w' F H _=>?_;refine ih _ _ G' Z w' hsz u hD' (λk hk=>?_) (c _ F) H hQ
     have hki:k≠i:=λe=>by
      subst e;have d1:=(List.nodup_append.1 q).2.2 k hiA;have d2:=(List.nodup_append.1 C).2.2 k hiA;rcases hk with hk|hk
      .exact d1 k hk rfl
      .exact d2 k hk rfl
     rw[S k hki];exact hB k hk
theorem WP.Ch(hm:P.follows .mixedOrders=true){id:Nat}{D:Nat->Nat->Bool}{A B1 B2:List Nat}{x y:Nat}(I:qX P nt D ops ops.toList=some rs)(g:Bu ops rs cs A x y B1 B2=true){c e d:List (Nat×ROp)}(m:cH rs cs A=some c)(v:cH rs cs (x::B1)=some e)(u:cH rs cs (y::B2)=some d){s:St}{Q:AX->St->Prop}
  (h:iV P (aX c e d) c s λB=>iV P (aX c e d) e B (Q .normal)/\iV P (aX c e d) d B (Q .normal)):WP P nt fl (.region id ops true) s Q:=λE G a w rd n hs he=>by
 obtain⟨f,q⟩:=iq I
 have b:∀k,k<rs.length->(Array.replicate ops.size false).getD k true=false:=λk hk=>by
  have hlen:rs.length=ops.size:=by simpa using f.symm
  simp[show k<ops.size by omega]
 refine wpIn_region_any hm ?_;refine Li (V:=aX c e d) (λk hk p z f l t j=>?_) (λi o H=>q i o (by simpa using H)) g he.1 ops.size _ s G a _ (by simp) ?_ ?_ ?_ ?_ hs.drew λF G' L w' K J=>⟨.normal,F,G',rfl,K,J⟩
 .simp only[aX,zY];rcases zY.1 hk with hk|hk<;>rcases zY.1 hk with hk|hk
  .exact .inl (ff m k hk p z f l t j)
  .exact .inr (.inl (ff v k hk p z f l t j))
  .exact .inl (ff m k hk p z f l t j)
  .exact .inr (.inr (ff u k hk p z f l t j))
 .exact ZN (Zy _ _) (by simp)
 .intro i o _ r;simp only[zT,yE] at r;split at r<;>cases r
 .rintro i (g|g)
  .exact b i (iU v i g)
  .exact b i (iU u i g)
 .rw [yC.2 λk hk=>by rw[b k (iU m k hk)];rfl]
  exact fe m (bg (λ_ C=>⟨fe v C.1,fe u C.2⟩) h)
end
end Go.AM
namespace Go.AM
open Go.CK Go.RowKit
section
variable{E:Entry}{G:Gh}{s:St}{a:Act}{w:World}{P:Program}
theorem J4{D D':Nat}(h:mark D=mark D'):D=D':=by
 simp only[mark,Deferred.mk.injEq,Target.collected.injEq] at h;exact h.1
theorem RS.M7(h:RS E G s a w){D:Nat}{ds:List Deferred}(m:a.defers=mark D::ds)(l:∃Ds:List Nat,ds=Ds.map mark++E.dd):(Instr.takeDeferred D).run P w=.ok [] (w.putObj D (.deferred none))/\RS E G s ⟨a.tmps,ds⟩ (w.putObj D (.deferred none)):=by
 obtain⟨p,t,r⟩:=h.sp.ob D (.deferred (some [])) (.inr ⟨by rw[m];simp,rfl⟩)
 refine⟨run_takeDeferred p,?_⟩;obtain⟨_,_,d⟩:=h.sp.ds;rw[m] at d;obtain⟨Ds,u⟩:=l
 refine h.Je (.deferred none) p rfl r rfl (λ_=>rfl) ⟨λB o hs=>?_,h.sp.base,h.sp.inj,⟨Ds,u,(Zc.1 d).2⟩,λb x hb j B o q=>by
  obtain⟨i,g,n⟩:=h.sp.rows b x hb j B o q;have c:B≠D:=λe=>t _ (e▸g);exact⟨by rw[World.putObj_heap_other c];exact i,g,n⟩⟩
 have k:Spc G.σ s.bs a.defers B o:=by
  rcases hs with hs|⟨hm,f⟩
  .exact .inl hs
  .exact .inr ⟨by rw[m];exact zQ _ hm,f⟩
 obtain⟨i,g,n⟩:=h.sp.ob B o k
 have c:B≠D:=λe=>by
  subst e;rcases hs with ⟨b,x,hb,e,f⟩|⟨hm,f⟩
  .exact x.ES (p.symm.trans (f▸i))
  .exact (Zc.1 d).1 hm
 exact⟨by rw[World.putObj_heap_other c];exact i,g,n⟩
theorem RS.leaves{fn:Func}{R:Ending->World->Prop}(f:E.dd=[]):∀(ds:List Deferred) {a:Act} {w:World},RS E G s a w->a.defers=ds->
  (∀w',RS E G s ⟨a.tmps,[]⟩ w'->LeavesIn (F0 none) 0 P fn a.tmps R [] .returning w')->LeavesInM (F0 none) 0 P fn a.tmps R ds .returning w
 |[],a,w,h,c,k=>k w (by rw[<-c];exact h)
 |d::ds,a,w,h,c,k=>by
  obtain⟨Ds,b,_⟩:=h.sp.ds;rw[c,f,zy] at b
  cases Ds with
  |nil=>cases b
  |cons D Ds=>
   simp only[zP,Zx] at b;obtain⟨rfl,e⟩:=b;obtain⟨i,g⟩:=h.M7 (P:=P) c ⟨Ds,by rw[f,zy];exact e⟩
   exact⟨by simp,.inl ⟨D,_,rfl,i,RS.leaves f (a:=⟨a.tmps,ds⟩) ds g rfl k⟩⟩
theorem RS.reE{E':Entry}(h:RS E G s a w)(f:Fr E'.FP E'.M E'.w G.M w)(hm:∀B,E.FP B\/E.w.heap.size<=B->E'.FP B\/E'.w.heap.size<=B)(e:E'.nt=E.nt)(c:E'.nb=E.nb)(j:E'.σ0=E.σ0)(g:E'.dd=E.dd):RS E' G s a w:=
 ⟨f,h.ok,h.nt.trans e.symm,h.val,h.one,h.box,λb cs hb=>⟨(h.bmem b cs hb).1,hm _ (h.bmem b cs hb).2⟩,h.inj,λp z l hp=>by
  obtain⟨q,k,o,n,i⟩:=h.own p z l hp;refine⟨q,k,o,n,?_⟩;rcases i with i|⟨B,hB,m,d⟩
  .exact .inl i
  .exact .inr ⟨B,hB,m,d.lt,d.cells,d.free,hm _ d.mine⟩,h.clinj,h.clbox,λp B hB=>⟨(h.cllt p B hB).1,hm _ (h.cllt p B hB).2⟩,h.lo.trans c.symm,by rw[c];exact h.len,by rw[c,j];exact h.sig,by
  rw[g];exact h.sp.step (Hp.le_refl _) (λ_ _=>rfl) (λ_ _ k=>k) (λ_ _ k _=>k) (λ_ _ _ _ p k=>⟨p,k⟩) hm⟩
def All(G:Gh)(bs:List Box)(ds:List Deferred)(B:Nat):Prop:=(∃b cs,aa bs b=some cs/\G.σ b=B)\/(∃p,G.cl p=some B)\/(∃o,Spc G.σ bs ds B o)
theorem RS.Ns(h:RS E G s a w):RS ⟨All G s.bs a.defers,G.M,w,E.nt,E.nb,E.σ0,E.dd⟩ G s a w:=
 ⟨Fr.refl _ _ _ h.fr.kn,h.ok,h.nt,h.val,h.one,h.box,λb cs hb=>⟨(h.bmem b cs hb).1,.inl (.inl ⟨b,cs,hb,rfl⟩)⟩,h.inj,λp z l hp=>by
  obtain⟨i,k,g,f,d⟩:=h.own p z l hp;refine⟨i,k,g,f,?_⟩;rcases d with d|⟨B,hB,e,c⟩
  .exact .inl d
  .exact .inr ⟨B,hB,e,c.lt,c.cells,c.free,.inl (.inr (.inl ⟨p,hB⟩))⟩,h.clinj,h.clbox,λp B hB=>⟨(h.cllt p B hB).1,.inl (.inr (.inl ⟨p,hB⟩))⟩,h.lo,h.len,h.sig,
  ⟨λB o hs=>⟨(h.sp.ob B o hs).1,(h.sp.ob B o hs).2.1,.inl (.inr (.inr ⟨o,hs⟩))⟩,h.sp.base,h.sp.inj,h.sp.ds,h.sp.rows⟩⟩
theorem RS.Lj(h:RS E G s a w){B:Nat}(hB:All G s.bs a.defers B):E.FP B\/E.w.heap.size<=B:=by
 rcases hB with ⟨b,cs,hb,rfl⟩|⟨p,hp⟩|⟨o,hs⟩
 .exact (h.bmem b cs hb).2
 .exact (h.cllt p B hp).2
 .exact (h.sp.ob B o hs).2.2
theorem RS.cn{bs:List Box}{lo:Nat}(c:RS E G ⟨[],bs,lo⟩ a w){env:List (Nat×AV)}(he:∀t y,au env t=some y->RV G.M G.σ bs.length y (a.tmps.getD t undef)):RS E G ⟨env,bs,lo⟩ a w:=by
 have d:∀p x,(⟨env,bs,lo⟩:St).at p=some x->(∃t,p=.sl t/\au env t=some x)\/(∃b j,p=.bx b j/\(⟨[],bs,lo⟩:St).at (.bx b j)=some x):=λp x hp=>by
  cases p with
  |sl t=>exact .inl ⟨t,rfl,hp⟩
  |bx b j=>exact .inr ⟨b,j,rfl,hp⟩
 refine⟨c.fr,c.ok,c.nt,λp x hp=>?_,λb j x hp=>c.one b j x hp,c.box,c.bmem,c.inj,λp z l hp=>?_,c.clinj,c.clbox,c.cllt,c.lo,c.len,c.sig,c.sp⟩
 .rcases d p x hp with ⟨t,rfl,f⟩|⟨b,j,rfl,e⟩
  .have g:=he t x f;show RV G.M G.σ bs.length x.aI (a.tmps.getD t undef);rw[g.cr];exact g
  .exact c.val _ _ e
 .rcases d p _ hp with ⟨t,rfl,f⟩|⟨b,j,rfl,e⟩
  .have:=(he t _ f).cr;simp[AV.aI] at this
  .exact c.own _ _ _ e
def fq(cl:Pl->Option Nat):Pl->Option Nat
 |.sl _=>none
 |.bx b j=>cl (.bx b j)
theorem RS.sI(h:RS E G s a w)(E':Entry)(I:Act)(v:Fr E'.FP E'.M E'.w G.M w)(r:I.tmps.size=E'.nt)(lo:Nat)(u:lo=E'.nb)(hlen:E'.nb<=s.bs.length)(g:∀b,b<E'.nb->G.σ b=E'.σ0 b)
  (c:∀B,(eo G s.bs B)->E'.FP B\/E'.w.heap.size<=B) (y:I.defers=[]) (A:E'.dd=[]:=by rfl):RS E' {G with cl:=fq G.cl} ⟨[],s.bs,lo⟩ I w:=by
 have m:∀p x,(⟨[],s.bs,lo⟩:St).at p=some x->∃b j,p=.bx b j/\s.at (.bx b j)=some x:=λp x hp=>by
  cases p with
  |sl t=>simp[St.at,au] at hp
  |bx b j=>exact⟨b,j,rfl,hp⟩
 have f:∀p B,fq G.cl p=some B->∃b j,p=.bx b j/\G.cl (.bx b j)=some B:=λp B hp=>by
  cases p with
  |sl t=>cases hp
  |bx b j=>exact⟨b,j,rfl,hp⟩
 refine⟨v,h.ok,r,λp x hp=>?_,λb j x hp=>?_,h.box,λb cs hb=>⟨(h.bmem b cs hb).1,c _ (.inl ⟨b,cs,hb,rfl⟩)⟩,h.inj,λp z l hp=>?_,λp q B hp K=>?_,λp B hB b cs hb=>?_,λp B hB=>?_,u,hlen,g,?_⟩
 .obtain ⟨b,j,rfl,d⟩:=m p x hp;exact h.val _ _ d
 .exact h.one b j x hp
 .obtain ⟨b,j,rfl,d⟩:=m p _ hp;obtain⟨P,k,H,F,D⟩:=h.own _ _ _ d;refine⟨P,k,H,F,?_⟩;rcases D with D|⟨B,hB,O,C⟩
  .exact .inl D
  .exact .inr ⟨B,hB,O,C.lt,C.cells,C.free,c B (.inr (.inl ⟨b,j,hB⟩))⟩
 .obtain ⟨b,j,rfl,d⟩:=f p B hp;obtain⟨J,Q,rfl,n⟩:=f q B K;exact h.clinj _ _ B d n
 .obtain ⟨J,j,rfl,d⟩:=f p B hB;exact h.clbox _ B d b cs hb
 .obtain ⟨b,j,rfl,d⟩:=f p B hB;exact⟨(h.cllt _ B d).1,c B (.inr (.inl ⟨b,j,d⟩))⟩
 .rw [y,A];refine⟨λB o hs=>?_,h.sp.base,h.sp.inj,⟨[],rfl,.nil⟩,λb x hb j B o N=>h.sp.rows b x hb j B o N⟩;rcases hs with ⟨b,x,hb,e,L⟩|⟨i,_⟩
  .obtain ⟨H,F,_⟩:=h.sp.ob B o (.inl ⟨b,x,hb,e,L⟩);refine⟨H,λp hp=>?_,c B (.inr (.inr ⟨b,x,hb,e⟩))⟩;obtain⟨J,j,rfl,d⟩:=f p B hp;exact F _ d
  .cases i
theorem dN{bs:List Box}{x:LB}(b:Nat):aa (bs++[.loop x]) b=aa bs b:=by
 rw[aq];split
 .rename_i e;subst e;simp[aa,Box.cs?]
 .rfl
theorem dx{bs:List Box}{x:LB}(b:Nat):ah (bs++[.loop x]) b=if b=bs.length then some x else ah bs b:=by
 simp only[ah]
 by_cases h:b<bs.length
 .rw [zK h,if_neg (by omega)]
 .by_cases a:b=bs.length
  .subst a;simp[Box.lb?]
  .rw [if_neg a,zR (by simp;omega),zR (by omega)]
theorem RS.L3(h:RS E G s a w)(r:Loop):
  RS E ⟨G.M,λb=>if b=s.bs.length then w.heap.size+1 else G.σ b,G.cl⟩ ⟨s.env,s.bs++[.loop ⟨G.M,G.σ,s.bs.length,r,none,[]⟩],s.lo⟩ ⟨a.tmps,mark w.heap.size::a.defers⟩ ((w.alloc (.deferred (some []))).alloc (.loop r)):=by
 have hw:∀B,B<w.heap.size->((w.alloc (.deferred (some []))).alloc (.loop r)).heap[B]? =w.heap[B]?:=λB hB=>(Below.heap_alloc _ _ _ (by simp;omega)).trans (Below.heap_alloc _ _ _ hB)
 have k:=h.grow (M':=G.M) (w':=(w.alloc (.deferred (some []))).alloc (.loop r)) ⟨rfl,rfl,rfl,by simp;omega,Hp.le_refl _,λB hB _=>hw B hB,λ_ _ _ _=>rfl⟩ (λb o v J=>by
  have:=h.ok b o v J;simp only[Hp.of] at this|-;rw[bN (hw b (Hp.lt h.ok J))];exact this)
 have y:E.w.heap.size<=w.heap.size:=h.fr.size
 have L:((w.alloc (.deferred (some []))).alloc (.loop r)).heap[w.heap.size+1]? =some (.loop r):=by
  have:=World.alloc_heap_new (w.alloc (.deferred (some []))) (.loop r)
  rwa [World.size_alloc] at this
 have N:((w.alloc (.deferred (some []))).alloc (.loop r)).heap[w.heap.size]? =some (.deferred (some [])):=(Below.heap_alloc _ _ _ (by simp)).trans (World.alloc_heap_new w _)
 generalize (w.alloc (.deferred (some []))).alloc (.loop r)=w' at*
 have m:∀p,(⟨s.env,s.bs++[.loop ⟨G.M,G.σ,s.bs.length,r,none,[]⟩],s.lo⟩:St).at p=s.at p:=λp=>by
  cases p with
  |sl t=>rfl
  |bx b j=>simp only[St.at,dN]
 have f:∀b,b<s.bs.length->(if b=s.bs.length then w.heap.size+1 else G.σ b)=G.σ b:=λb hb=>by rw[if_neg (by omega)]
 have g:∀p x,s.at p=some x->aw (λb=>if b=s.bs.length then w.heap.size+1 else G.σ b) ⟨a.tmps,mark w.heap.size::a.defers⟩ w' p=aw G.σ a w' p:=λp x hp=>by
  cases p with
  |sl t=>rfl
  |bx b j=>
   simp only[St.at] at hp
   cases hb:aa s.bs b with
   |none=>rw[hb] at hp;cases hp
   |some cs=>simp only[aw];rw[f b (aC hb)]
 have i:∀B,w.heap.size<=B->∀p,G.cl p≠some B:=λB hB p hp=>by
  have:=(h.cllt p B hp).1;omega
 refine⟨k.fr,k.ok,h.nt,λp x hp=>?_,λb j x hp=>?_,λb cs hb=>?_,λb cs hb=>?_,λb q cs H hb d e=>?_,λp z l hp=>?_,h.clinj,λp B hB b cs hb=>?_,k.cllt,h.lo,by simp only[zC];exact Nat.le_add_right_of_le h.len,λb hb=>?_,?_⟩
 .rw [m] at hp;rw[g p x hp];exact(k.val p x hp).mono (Hp.le_refl _) (by simp) f
 .rw [m] at hp;rw[g _ x hp];exact k.one b j x hp
 .rw [dN] at hb;simp only[f b (aC hb)];exact k.box b cs hb
 .rw [dN] at hb;simp only[f b (aC hb)];exact k.bmem b cs hb
 .rw [dN] at hb d;simp only[f b (aC hb),f q (aC d)] at e;exact h.inj b q cs H hb d e
 .rw [m] at hp;rw[g p _ hp];exact k.own p z l hp
 .rw [dN] at hb;simp only[f b (aC hb)];exact h.clbox p B hB b cs hb
 .have:=h.len;simp only[f b (by omega)]
  exact h.sig b hb
 .have hold:∀b x,ah s.bs b=some x->G.σ b<w.heap.size:=λb x hb=>(zh.1 (h.sp.ob _ _ (.inl ⟨b,x,hb,rfl,rfl⟩)).1).1;obtain⟨Ds,D,A⟩:=h.sp.ds;refine⟨λB o hs=>?_,λb x hb=>?_,λb q x I hb d e=>?_,⟨w.heap.size::Ds,by simp[D],Zc.2 ⟨λhm=>?_,A⟩⟩,λb x hb j B o K=>?_⟩
  .rcases hs with ⟨b,x,hb,e,rfl⟩|⟨hm,rfl⟩
   .rw [dx] at hb;split at hb
    .rename_i u;cases hb;simp only[u,if_true] at e;subst e;exact⟨L,i _ (by omega),.inr (by omega)⟩
    .simp only at e;rw[f b (aO hb)] at e;exact k.sp.ob B _ (.inl ⟨b,x,hb,e,rfl⟩)
   .rcases zI.1 hm with hm|hm
    .have:=J4 hm;subst this;exact⟨N,i _ (zG _),.inr y⟩
    .exact k.sp.ob B _ (.inr ⟨hm,rfl⟩)
  .rw [dx] at hb;split at hb
   .rename_i u;cases hb;exact⟨Hp.le_refl _,by simp only;omega,λc C=>f c C⟩
   .obtain ⟨F,P,O⟩:=h.sp.base b x hb;have:=aO hb;exact⟨F,P,λc C=>(f c (by omega)).trans (O c C)⟩
  .rw [dx] at hb d;split at hb
   .rename_i u;split at d
    .rename_i n;rw[u,n]
    .have:=hold q I d;simp only at e;rw[f q (aO d),if_pos u] at e;omega
   .split at d
    .rename_i n;have:=hold b x hb;simp only at e;rw[f b (aO hb),if_pos n] at e;omega
    .simp only[f b (aO hb),f q (aO d)] at e;exact h.sp.inj b q x I hb d e
  .have F:=(h.sp.ob w.heap.size _ (.inr ⟨hm,rfl⟩)).1;have:=(zh.1 F).1;omega
  .rw [dx] at hb;split at hb
   .cases hb;cases K
   .exact k.sp.rows b x hb j B o K
def LB.done(x:LB)(c:Code):LB:={x with r:={x.r with state:=.done,pending:=some c}}
def um(x:LB)(b:Nat)(Q:AV->List Box->Prop):AX->St->Prop
 |.normal,s=>Q (.bool true) (s.bs.set b (.loop x))
 |.ret,s=>Q (.bool false) (s.bs.set b (.loop (x.done .ret)))
 |.exit id,s=>Q (.bool false) (s.bs.set b (.loop (x.done (.exit id))))
def j5:List (Nat×AV)->List Nat->List AV->List (Nat×AV)
 |e,p::ps,v::vs=>j5 (aT e p v) ps vs
 |e,_,_=>e
def eH:List (Nat×AV)->List (Nat×AV)
 |[]=>[]
 |(t,v)::r=>(t,v.aI)::eH r
theorem qT:∀(e:List (Nat×AV)) (t:Nat) (y:AV),au (eH e) t=some y->∃x,au e t=some x/\y=x.aI
 |[],t,y,h=>by cases h
 |(k,v)::r,t,y,h=>by
  simp only[eH,au] at h|-
  cases hb:Nat.beq k t with
  |true=>rw[hb] at h;cases h;exact⟨v,rfl,rfl⟩
  |false=>rw[hb] at h;exact qT r t y h
theorem xH{M:Hp}{σ:Nat->Nat}{n:Nat}:∀(ps:List Nat) (ab:List AV) (args:List Value) (env:List (Nat×AV)) (tmps:Array Value),args.length=ab.length->(∀p∈ps,p<tmps.size)->
  (∀t y,au env t=some y->RV M σ n y (tmps.getD t undef))->(∀j (h:j<ab.length) v,args[j]? =some v->RV M σ n ab[j] v)->
  (∀t y,au (j5 env ps ab) t=some y->RV M σ n y (((ps.zip args).foldl (λt (p,v)=>t.setIfInBounds p v) tmps).getD t undef))/\((ps.zip args).foldl (λt (p,v)=>t.setIfInBounds p v) tmps).size=tmps.size
 |[],ab,args,env,tmps,_,_,h,_=>by cases ab<;>exact⟨h,rfl⟩
 |p::ps,[],[],env,tmps,_,_,h,_=>⟨h,rfl⟩
 |p::ps,v::ab,u::args,env,tmps,b,hp,h,f=>by
  have a:(tmps.setIfInBounds p u).size=tmps.size:=by simp
  have:=xH ps ab args (aT env p v) (tmps.setIfInBounds p u) (by simpa using b) (λq g=>by rw[a];exact hp q (zQ _ g)) (λt y c=>by
   rw[fi] at c;split at c
   .rename_i e;subst e;cases c
    have:(tmps.setIfInBounds t u).getD t undef=u:=by
     have:=hp t (by simp)
     simp[this]
    rw[this];exact f 0 (by simp) u (by simp)
   .rename_i e
    have:(tmps.setIfInBounds p u).getD t undef=tmps.getD t undef:=by
     simp[zW (Ne.symm e)]
    rw[this];exact h t y c) (λj i v' d=>f (j+1) (by simp;omega) v' (by simpa using d))
  simp only[j5,List.zip_cons_cons,Zv]
  exact⟨this.1,this.2.trans a⟩
 |p::ps,[],u::args,env,tmps,b,_,_,_=>by simp at b
 |p::ps,v::ab,[],env,tmps,b,_,_,_=>by simp at b
theorem dS{bs:List Box}{b:Nat}(x:LB)(hb:b<bs.length)(c:Nat):ah (bs.set b (.loop x)) c=if c=b then some x else ah bs c:=by
 simp only[ah,zq]
 by_cases e:b=c
 .subst e;simp[hb,Box.lb?]
 .rw [if_neg e,if_neg (λk=>e k.symm)]
theorem bX{bs:List Box}{b:Nat}(c:Nat):ah (bs.set b .dead) c=if c=b then none else ah bs c:=by
 simp only[ah,zq]
 by_cases e:b=c
 .subst e
  by_cases hb:b<bs.length
  .simp [hb,Box.lb?]
  .simp [hb]
 .rw [if_neg e,if_neg (λk=>e k.symm)]
theorem n4{bs:List Box}{b:Nat}{y:Box}(d:y.cs? =none)(hb:aa bs b=none)(c:Nat):aa (bs.set b y) c=aa bs c:=by
 by_cases e:b=c
 .subst e;rw[hb];simp only[aa,zq]
  by_cases a:b<bs.length
  .simp only[if_true,a];exact d
  .simp [a]
 .simp only[aa,zq,if_neg e]
theorem sj{bs:List Box}{b:Nat}{x:LB}(h:ah bs b=some x):aa bs b=none:=by
 simp only[ah,aa] at*;split at h
 .rename_i y e;cases y<;>first|rfl|(cases h;done)|skip
 .cases h
end
end Go.AM
