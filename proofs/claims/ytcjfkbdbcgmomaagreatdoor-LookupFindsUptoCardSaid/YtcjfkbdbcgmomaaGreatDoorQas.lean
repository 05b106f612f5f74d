/-
  By an AI agent.
-/
import Derived.Test.YtcjfkbdbcgmomaaGreatDoorQar
set_option linter.unusedSimpArgs false
set_option linter.unusedVariables false
namespace Go.AM
open Go.CK Go.RowKit
def aJ{α:Type}(f:α->AV)(z k:Nat)(l:List α):Box:=.row (cellsOf (l.map f)++List.replicate ((k-l.length)*z) .top)
structure Plain{α:Type}(f:α->AV)(z:Nat):Prop where
 pos:0<z
 sz:∀x,(f x).cells.length=z
 de:∀x,∀c∈(f x).cells,c.aI=c
 flat:∀x,∀c∈(f x).cells,c.aZ=true
theorem nH:∀{l:List AV} {c:AV},c∈cellsOf l->∃x∈l,c∈x.cells
 |[],_,h=>by cases h
 |x::l,c,h=>by
  rcases zY.1 h with h|h
  .exact ⟨x,by simp,h⟩
  .obtain ⟨y,b,a⟩:=nH h;exact⟨y,by simp[b],a⟩
section
variable{α:Type}{f:α->AV}{z:Nat}
theorem Plain.len(h:Plain f z)(l:List α):(cellsOf (l.map f)).length=l.length*z:=by
 rw[bC (z:=z) λy a=>by obtain⟨x,_,rfl⟩:=zk.1 a;exact h.sz x,zF]
theorem Plain.mem(h:Plain f z){l:List α}{c:AV}(b:c∈cellsOf (l.map f)):c.aI=c/\c.aZ=true:=by
 obtain⟨y,d,a⟩:=nH b;obtain⟨x,_,rfl⟩:=zk.1 d;exact⟨h.de x c a,h.flat x c a⟩
theorem Plain.take(h:Plain f z)(l:List α)(p:List AV):(cellsOf (l.map f)++p).take (l.length*z)=cellsOf (l.map f):=by
 rw[<-h.len l];simp
theorem ed{bs:List Box}{b:Nat}{cs:List AV}(h:bs[b]? =some (.row cs)):rowAt bs b=some cs:=by
 unfold rowAt;rw[h]
theorem ub{bs:List Box}{b m k:Nat}{cs:List AV}{K:Nat->Nat->List AV->Option Nat->Prop}(h:bs[b]? =some (.row cs))(k':K m k cs (some b)):pY bs (.bsl b m k) K:=by
 simp only[pY,ed h];exact k'
theorem oe.row(hp:Plain f z){e:List (Nat×AV)}{bs:List Box}{lo:Nat}{b m k:Nat}{l l':List α}{o:Cap}{K:AV->St->Prop}(hb:bs[b]? =some (aJ f z k l))(hm:m=l.length)(hk:m<=k)(a:m+l'.length<=4294967296)
  (h:∀k',(l++l').length<=k'->K (.bsl bs.length (l++l').length k') ⟨e,bs.set b .dead++[aJ f z k' (l++l')],lo⟩):oe z ⟨e,bs,lo⟩ (.bsl b m k) (.sl o (l'.map f)) K:=by
 subst hm;refine⟨ub hb ?_⟩;refine⟨λy g=>by obtain⟨x,_,rfl⟩:=zk.1 g;exact hp.sz x,?_⟩
 rw[zF];refine⟨⟨hp.pos,?_,a,λx d=>?_⟩,λk' c=>?_⟩
 .rw [zC,hp.len,zf,<-ZL];exact ZE _ (by omega)
 .rw [hp.take] at d;exact(hp.mem d).1
 .rw [hp.take,<-zg,<-jf,<-zu];have:=h k' (by simpa using c)
  simp only[zC] at this;unfold aJ at this;simp only[zC] at this;exact this
theorem oe.one(hp:Plain f z){e:List (Nat×AV)}{bs:List Box}{lo:Nat}{b m k:Nat}{l:List α}{x:α}{o:Cap}{K:AV->St->Prop}(hb:bs[b]? =some (aJ f z k l))(hm:m=l.length)(hk:m<=k)(a:m+1<=4294967296)
  (h:∀k',(l++[x]).length<=k'->K (.bsl bs.length (l++[x]).length k') ⟨e,bs.set b .dead++[aJ f z k' (l++[x])],lo⟩):oe z ⟨e,bs,lo⟩ (.bsl b m k) (.sl o [f x]) K:=
 oe.row (l':=[x]) hp hb hm hk a h
theorem MJ.nil(hp:Plain f z){e:List (Nat×AV)}{bs:List Box}{lo:Nat}{ik:IntKind}{n:Int}{K:AV->St->Prop}(b:0<=n/\n<=4294967296)(h:∀k',n.toNat<=k'->K (.bsl bs.length n.toNat k') ⟨e,bs++[aJ f z k' []],lo⟩):MJ z ⟨e,bs,lo⟩ (.sl .full []) (.int ik n) K:=by
 refine⟨?_⟩;unfold sq;simp only[pY];refine⟨⟨hp.pos,by simp,⟨b.1,by omega⟩,λx a=>by simp at a⟩,λk' c=>?_⟩
 have:=h k' (by omega)
 simpa[aJ,cellsOf,fJ] using this
theorem MkN.row(hp:Plain f z)(x:α){e:List (Nat×AV)}{bs:List Box}{lo:Nat}{ik a:IntKind}{n m:Int}{K:AV->St->Prop}(b:0<=n/\n<=m/\m<=4294967296)(h:K (.bsl bs.length n.toNat m.toNat) ⟨e,bs++[aJ f z m.toNat (List.replicate n.toNat x)],lo⟩):MkN z (f x) ⟨e,bs,lo⟩ (.int ik n) (.int a m) K:=by
 refine⟨⟨⟨hp.pos,b⟩,?_⟩⟩;simpa only[aJ,List.map_replicate,zf] using h
theorem RS.JH{E:Entry}{G:Gh}{s:St}{a:Act}{w:World}(h:RS E G s a w):RS E G ⟨s.env,s.bs++[.row []],s.lo⟩ a w:=by
 have:=h.reb (bs':=s.bs++[.row []]) (σ':=G.σ) id (by simp) (λ_ _=>rfl) (λb x hb=>cu rfl hb) (λb d c=>by
  rw[aq] at c;split at c
  .cases c
  .exact ⟨d,c,rfl,zG _,λj x f=>.inr ⟨f,.inl rfl⟩⟩) (λb g _ _ _ _ e=>e)
 exact this
theorem aD.sE(s:St)(t:Nat)(f:au s.env t=some (.sl .full [])):aD s ⟨aT s.env t (.bsl s.bs.length 0 0),s.bs++[.row []],s.lo⟩:=λE G a w hs=>by
 have d:=hs.JH;have b:(⟨s.env,s.bs++[.row []],s.lo⟩:St).at (.sl t)=some (.sl .full []):=f;have c:=d.val _ _ b;simp only[AV.aI] at c;refine⟨G,d.upd (q:=.sl t) b ?_⟩;obtain⟨k,j,B,off,e,i,_,_,_,g,_⟩:=c.cX;have:=g rfl;subst this;rw[i];exact .bsl _ _ _ _ (by simp) (zG _) (zJ _) (λh=>absurd rfl h)
theorem ag.sE{s:St}{rs:List eP}{Q:AV->List Box->Prop}(k:Nat)(d:au s.env k=some (.sl .full []))(h:ag ⟨aT s.env k (.bsl s.bs.length 0 0),s.bs++[.row []],s.lo⟩ rs Q):ag s rs Q:=by
 obtain⟨a,c,b⟩:=h.out;exact⟨a,(aD.sE s k d).trans c,b⟩
theorem al.sE{s t:St}(k:Nat)(a:au s.env k=some (.sl .full []))(h:al ⟨aT s.env k (.bsl s.bs.length 0 0),s.bs++[.row []],s.lo⟩ t):al s t:=⟨(aD.sE s k a).trans h.out⟩
theorem gl.A2{M:Hp}{B:Nat}{L:List AV}{p:List AV}(b:∀y∈L,y.cells.length=z)(h:Cells M B 0 (cellsOf L++p)):gl M B 0 z L:=λi c=>by
 have g:=bC b;have l:=b _ (zc c);refine⟨l,λj k=>?_⟩
 have a:i*z+j<(cellsOf L).length:=by
  rw[g];have:=ZE z c;rw[Nat.succ_mul] at this;omega
 obtain⟨v,f,m,e⟩:=h (i*z+j) (by rw[zC];omega)
 refine⟨v,?_,m,?_⟩
 .rw [ZI] at f|-;exact f
 .rw [ZH a] at e;have d:=jA b i c j (by omega)
  rw[zA a,zA k] at d;rw[<-yJ d];exact e
theorem aD.froze(hp:Plain f z)(s:St)(t:Nat){b m k:Nat}{l:List α}(J:au s.env t=some (.bsl b m k))(hb:s.bs[b]? =some (aJ f z k l))(hm:m=l.length):aD s ⟨aT s.env t (.sl .no (l.map f)),s.bs.set b .dead,s.lo⟩:=λE G a w hs=>by
 subst hm;have K:∀y∈l.map f,y.cells.length=z:=λy L=>by obtain⟨x,_,rfl⟩:=zk.1 L;exact hp.sz x
 have n:s.at (.sl t)=some (.bsl b l.length k):=J;have r:=hs.val _ _ n;obtain⟨S,I,P,A,v,D⟩:=r.cj
 by_cases hk:k=0
 .subst hk;have N:l=[]:=zL (by omega)
  subst N
  have F:=hs.reb (bs':=s.bs.set b .dead) (σ':=G.σ) id (by simp) (λ_ _=>rfl) (λc x g=>eK g) (λc H g=>by
   rw[bw] at g;split at g
   .cases g
   .exact ⟨H,g,rfl,zG _,λj x d=>.inr ⟨d,.inl rfl⟩⟩) (λb T _ _ _ _ e=>e)
  refine⟨_,F.upd (q:=.sl t) (x:=.sl .no ([].map f)) n ?_⟩;show RV G.M G.σ _ _ (aw G.σ a w (.sl t));rw[I];exact .flat (FV.jw (l:=[]) (B:=0) (off:=0) (sz:=z) (by simp) (zG _) (zJ _) (by simp) (λh=>absurd rfl h) (λi O=>by cases O))
 .have u:cellsOf (l.map f)++List.replicate ((k-l.length)*z) .top≠[]:=λe=>by
   have:=congrArg List.length e;rw[zC,hp.len,zf,<-ZL,ZP] at this;have R:0<(l.length+(k-l.length))*z:=Nat.mul_pos (by omega) hp.pos
   omega
  have C:aa s.bs b=some (cellsOf (l.map f)++List.replicate ((k-l.length)*z) .top):=db (ed hb) u
  obtain⟨G',F,R,Q⟩:=hs.dead C (λx d=>by
   rcases zY.1 d with d|d
   .exact (hp.mem d).2
   .rw [(ZY.1 d).2];rfl)
  refine⟨G',F.upd (q:=.sl t) (x:=.sl .no (l.map f)) (y:=.bsl b l.length k) J ?_⟩;show RV G'.M G'.σ _ _ (aw G'.σ a w (.sl t));have p:aw G'.σ a w (.sl t)=.slice S l.length k:=I;rw[p,D hk];have:=FV.jw (M:=G'.M) (o:=.no) (l:=l.map f) (a:=some ⟨G.σ b,0,none⟩) (k:=k) (B:=G.σ b) (off:=0) (sz:=z) (by simp) (by simpa using A) (by simpa using v) (by simp) (λ_=>rfl) (gl.A2 K Q)
  rw[zF] at this;exact .flat this
theorem ag.froze(hp:Plain f z){s:St}{t:Nat}{b m k:Nat}{l:List α}{Q:AV->List Box->Prop}(e:au s.env t=some (.bsl b m k))(hb:s.bs[b]? =some (aJ f z k l))(hm:m=l.length)(h:ag ⟨aT s.env t (.sl .no (l.map f)),s.bs.set b .dead,s.lo⟩ [.slot t] Q):ag s [.slot t] Q:=by
 obtain⟨a,d,c⟩:=h.out;exact⟨a,(aD.froze hp s t e hb hm).trans d,c⟩
end
section
variable{E:Entry}{G:Gh}{s:St}{a:Act}{w:World}
end
theorem Plain.JG{α:Type}{f:α->AV}{z:Nat}(hp:Plain f z)(l:List α)(q n:Nat):∀x∈cellsOf (l.map f)++List.replicate q .top,x.aI=x/\x.lt n=true:=λx a=>by
 rcases zY.1 a with a|a
 .obtain ⟨c,b⟩:=hp.mem a;refine⟨c,?_⟩;cases x<;>first|(cases b;done)|rfl
 .rw [(ZY.1 a).2];exact⟨rfl,rfl⟩
theorem ag.slot{s:St}{t:Nat}{Q:AV->List Box->Prop}(h:Q (s.get t) s.bs):ag s [.slot t] Q:=⟨s,aD.refl s,.inl h⟩
theorem rH:Plain (AV.int .i64) 1:=⟨Zw,λ_=>rfl,λx c h=>by simp[AV.cells] at h;subst h;rfl,λx c h=>by simp[AV.cells] at h;subst h;rfl⟩
def dX(v:AV)(xs:List Int):List (Int×AV):=xs.foldl (λl n=>iW l n v) []
theorem vh(v:AV):∀(l:List (Int×AV)) (n m:Int),nG (iW l n v) m=if m=n then some v else nG l m
 |[],n,m=>by simp only[iW,nG]
 |(k,x)::l,n,m=>by
  simp only[iW]
  by_cases h:n=k
  .subst h;simp only[if_true,nG]
   by_cases a:m=n<;>simp[a]
  .simp only[if_neg h,nG]
   by_cases a:m=k
   .subst a;rw[if_pos rfl,if_neg (λe=>h e.symm),if_pos rfl]
   .rw [if_neg a,if_neg a,vh v l n m]
theorem Md(v:AV)(xs:List Int)(n:Int):nG (dX v xs) n=if n∈xs then some v else none:=by
 have:∀(xs:List Int) (l:List (Int×AV)),nG (xs.foldl (λl n=>iW l n v) l) n=if n∈xs then some v else nG l n:=λxs=>by
  induction xs with
  |nil=>intro l;simp
  |cons x xs ih=>
   intro l;rw[Zv,ih,vh]
   by_cases b:n∈xs
   .simp [b]
   .by_cases a:n=x
    .simp [a]
    .simp [b,a]
 rw[dX,this];simp[nG]
theorem qv(v:AV)(xs:List Int)(n:Int):iW (dX v xs) n v=dX v (xs++[n]):=by simp[dX]
theorem Ef.set{v:AV}{xs:List Int}{n:Int}{ok:Bool}{z:AV}{K:AV->Prop}(a:gk v=true)(c:n∈xs->K (okR ok v true))(b:n∉xs->K (okR ok z false)):Ef (dX v xs) n ok z K:=by
 refine⟨?_⟩;rw[Md]
 by_cases h:n∈xs
 .simp only[if_pos h];exact⟨a,c h⟩
 .simp only[if_neg h];exact b h
theorem cells_one{α:Type}{f:α->AV}(a:∀x,(f x).cells=[f x])(l:List α):cellsOf (l.map f)=l.map f:=by
 induction l with
 |nil=>rfl
 |cons x l ih=>rw[zP,cellsOf,ih,a];rfl
theorem ui{α:Type}{f:α->AV}(d:∀x,(f x).cells=[f x]){bs:List Box}{b k i:Nat}{l:List α}{x:α}(hb:bs[b]? =some (aJ f 1 k l))(c:l[i]? =some x):aa bs b=some (l.map f++List.replicate (k-l.length) AV.top):=by
 have a:bs[b]? =some (.row (l.map f++List.replicate (k-l.length) AV.top)):=by
  rw[hb];simp only[aJ,cells_one d,Nat.mul_one]
 refine db (ed a) λe=>?_;have:=congrArg List.length e;rw[zC,zF,ZP] at this;have g:=(zB.1 c).1;omega
theorem ElN.one{α:Type}{f:α->AV}(c:∀x,(f x).cells=[f x]/\(f x).aI=f x){e:List (Nat×AV)}{bs:List Box}{lo b k i:Nat}{l:List α}{x:α}{K:AV->Prop}(hb:bs[b]? =some (aJ f 1 k l))(a:l[i]? =some x)(h:K (f x)):ElN false 1 ⟨e,bs,lo⟩ (.elp b i 1 0) K:=by
 refine⟨?_⟩;have d:=(zB.1 a).1;simp only[St.rd,ui (λx=>(c x).1) hb a,Nat.mul_one,Zf];rw[List.drop_append_of_le_length (by rw[zF];omega),<-List.map_drop,zH d,(zB.1 a).2]
 simp only[zP,ze,bV,(c x).2];exact h
theorem EsN.one{α:Type}{f:α->AV}(a:∀x,(f x).cells=[f x]/\ba (f x)=true){e:List (Nat×AV)}{bs:List Box}{lo b k i:Nat}{l:List α}{x y:α}{K:St->Prop}(hb:bs[b]? =some (aJ f 1 k l))(c:l[i]? =some x)(h:K ⟨e,bs.set b (aJ f 1 k (l.set i y)),lo⟩):EsN 1 ⟨e,bs,lo⟩ b i 1 0 (f y) K:=by
 refine⟨?_⟩;have d:=(zB.1 c).1;simp only[lM,ui (λx=>(a x).1) hb c,Nat.mul_one,Zf];refine⟨⟨(a y).2,by rw[(a y).1];rfl,by omega,by rw[zC,zF];omega⟩,?_⟩
 have he:setAt (l.map f++List.replicate (k-l.length) AV.top) i (f y).cells=(l.set i y).map f++List.replicate (k-(l.set i y).length) AV.top:=by
  simp only[(a y).1,setAt,zm,List.map_set];rw[List.set_append,if_pos (by rw[zF];exact d)]
 rw[he];have g:aJ f 1 k (l.set i y)=.row ((l.set i y).map f++List.replicate (k-(l.set i y).length) AV.top):=by simp only[aJ,cells_one (λx=>(a x).1),Nat.mul_one]
 rw[<-g];exact h
theorem JL:Plain AV.bool 1:=⟨Zw,λ_=>rfl,λx c h=>by simp[AV.cells] at h;subst h;rfl,λx c h=>by simp[AV.cells] at h;subst h;rfl⟩
theorem RS.wJ{α:Type}{f:α->AV}{z:Nat}(hp:Plain f z){E:Entry}{G:Gh}{s:St}{a:Act}{w:World}(hs:RS E G s a w){b k0:Nat}{l:List α}(hb:s.bs[b]? =some (aJ f z k0 l)):
  ∃G',RS E G' ⟨s.env,s.bs.set b .dead,s.lo⟩ a w/\G'.σ=G.σ/\∀(m k:Nat) (v:Value),m<=l.length->RV G.M G.σ s.bs.length (.bsl b m k) v->FV G'.M (.sl .no ((l.take m).map f)) v:=by
 have F:∀y∈l.map f,y.cells.length=z:=λy H=>by obtain⟨x,_,rfl⟩:=zk.1 H;exact hp.sz x
 by_cases n:cellsOf (l.map f)++List.replicate ((k0-l.length)*z) AV.top=[]
 .have J:l=[]:=by
   have:=congrArg List.length n;rw[zC,hp.len,ZP] at this;have C:=hp.pos
   cases l with
   |nil=>rfl
   |cons x l=>simp only[zX,Nat.succ_mul] at this;omega
  subst J
  have u:=hs.reb (bs':=s.bs.set b .dead) (σ':=G.σ) id (by simp) (λ_ _=>rfl) (λc x g=>eK g) (λc A g=>by
   rw[bw] at g;split at g
   .cases g
   .exact ⟨A,g,rfl,zG _,λj x d=>.inr ⟨d,.inl rfl⟩⟩) (λb O _ _ _ _ e=>e)
  refine⟨_,u,rfl,λm k v hm p=>?_⟩;simp only[ZP,Nat.le_zero] at hm;subst hm;obtain⟨D,rfl,_,_,_,_⟩:=p.cj;exact FV.jw (l:=[]) (B:=0) (off:=0) (sz:=z) (by simp) (zJ _) (zJ _) (by simp) (λh=>absurd rfl h) (λi K=>by cases K)
 .have r:aa s.bs b=some (cellsOf (l.map f)++List.replicate ((k0-l.length)*z) .top):=db (ed hb) n
  obtain⟨G',u,N,L⟩:=hs.dead r (λx d=>by
   rcases zY.1 d with d|d
   .exact (hp.mem d).2
   .rw [(ZY.1 d).2];rfl)
  refine⟨G',u,N,λm k v hm p=>?_⟩;obtain⟨D,rfl,_,I,q,t⟩:=p.cj;have he:=nV (gl.A2 F L) 0 m (by simpa using hm)
  simp only[Nat.zero_mul,Zf,yQ,<-List.map_take] at he;have hlen:((l.take m).map f).length=m:=by simp;omega
  have:=FV.jw (M:=G'.M) (o:=.no) (l:=(l.take m).map f) (a:=D) (k:=k) (B:=G.σ b) (off:=0) (sz:=z) (by simp) (by omega) (by rw[hlen];exact q) (by simp) (λC=>t (λe=>by
   subst e;have:m=0:=by omega
   subst this;simp at C)) he
  rw[hlen] at this;exact this
theorem aD.mm{α:Type}{f:α->AV}{z:Nat}(hp:Plain f z)(s:St)(c i:Nat){cs:List AV}{b m k k0:Nat}{l:List α}(y:s.bs[c]? =some (.cells cs))(v:cs[i]? =some (.bsl b m k))(hb:s.bs[b]? =some (aJ f z k0 l))(hm:m<=l.length):aD s ⟨s.env,(s.bs.set b .dead).set c (.cells (cs.set i (.sl .no ((l.take m).map f)))),s.lo⟩:=λE G a w hs=>by
 have t:c≠b:=λe=>by subst e;rw[y] at hb;cases hb
 have h:aa s.bs c=some cs:=by simp only[aa,y];rfl
 have d:aa (s.bs.set b .dead) c=some cs:=by rw[bw,if_neg t];exact h
 have u:s.at (.bx c i)=some (.bsl b m k):=by simp only[St.at,h,ZG];exact v
 have g:=hs.val _ _ u;have r:(AV.bsl b m k).aI=.bsl b m k:=rfl;rw[r] at g;obtain⟨G',C,A,o⟩:=hs.wJ hp hb;have p:=o m k _ hm g;have j:(⟨s.env,s.bs.set b .dead,s.lo⟩:St).at (.bx c i)=some (.bsl b m k):=by simp only[St.at,d,ZG];exact v
 have B:=C.upd (q:=.bx c i) (x:=.sl .no ((l.take m).map f)) j (by
  show RV G'.M G'.σ _ _ (aw G'.σ a w (.bx c i));have n:aw G'.σ a w (.bx c i)=aw G.σ a w (.bx c i):=by simp only[aw,A]
  rw[n];exact .flat p)
 refine⟨G',?_⟩;have e:(⟨s.env,s.bs.set b .dead,s.lo⟩:St).upd (.bx c i) (.sl .no ((l.take m).map f))=⟨s.env,(s.bs.set b .dead).set c (.cells (cs.set i (.sl .no ((l.take m).map f)))),s.lo⟩:=by simp only[St.upd,d,St.aU]
 rw[<-e];exact B
theorem ag.mm{α:Type}{f:α->AV}{z:Nat}(hp:Plain f z){s:St}(c i:Nat){cs:List AV}{b m k k0:Nat}{l:List α}{rs:List eP}{Q:AV->List Box->Prop}(j:s.bs[c]? =some (.cells cs))(d:cs[i]? =some (.bsl b m k))(hb:s.bs[b]? =some (aJ f z k0 l))(hm:m<=l.length)(h:ag ⟨s.env,(s.bs.set b .dead).set c (.cells (cs.set i (.sl .no ((l.take m).map f)))),s.lo⟩ rs Q):ag s rs Q:=by
 obtain⟨a,g,e⟩:=h.out;exact⟨a,(aD.mm hp s c i j d hb hm).trans g,e⟩
theorem F9.no{l:List AV}{K:Bool->Prop}(h:∀b,(b=true->l=[])->K b):F9 l K:=⟨λa=>h false (λe=>by cases e),λa b=>h b λ_=>a⟩
end Go.AM
namespace Go.CK
open Go.RowKit
inductive Tm where
 |mk (kind num:Int) (name:ByteArray) (args:List Tm)
namespace Tm
def kind:Tm->Int|.mk k _ _ _=>k
def num:Tm->Int|.mk _ n _ _=>n
def name:Tm->ByteArray|.mk _ _ s _=>s
def args:Tm->List Tm|.mk _ _ _ l=>l
mutual
def beq:Tm->Tm->Bool
 |.mk k n s l,.mk k' n' a l'=>decide (k=k')&&(decide (n=n')&&(decide (s=a)&&FU l l'))
def FU:List Tm->List Tm->Bool
 |[],[]=>true
 |a::l,b::m=>beq a b&&FU l m
 |_,_=>false
end
mutual
theorem beq_iff:∀a b:Tm,beq a b=true↔a=b
 |.mk k n s l,.mk k' n' c l'=>by
  simp only[beq,zD,decide_eq_true_eq,DQ l l',Tm.mk.injEq]
theorem DQ:∀l m:List Tm,FU l m=true↔l=m
 |[],[]=>by simp[FU]
 |[],_::_=>by simp[FU]
 |_::_,[]=>by simp[FU]
 |a::l,b::m=>by simp[FU,beq_iff a b,DQ l m]
end
instance:DecidableEq Tm:=λa b=>decidable_of_iff (beq a b=true) (beq_iff a b)
mutual
def nodes:Tm->Nat
 |.mk _ _ _ l=>aA l+1
def aA:List Tm->Nat
 |[]=>0
 |a::l=>nodes a+aA l
end
end Tm
mutual
theorem Tm.bA{p:Tm->Prop}(h:∀k n s l,(∀t∈l,p t)->p (.mk k n s l)):∀t,p t
 |.mk k n s l=>h k n s l (Tm.C7 h l)
theorem Tm.C7{p:Tm->Prop}(h:∀k n s l,(∀t∈l,p t)->p (.mk k n s l)):∀l:List Tm,∀t∈l,p t
 |[],_,b=>by cases b
 |a::l,t,b=>by
  exact(zI.1 b).elim (λe=>e▸Tm.bA h a) (λc=>Tm.C7 h l t c)
end
inductive RTm (H:Hp):List Value->Tm->Prop
 |mk (k n:Int) (s:ByteArray) (a:Option Addr) (cap:Nat) (args:List Tm) (es:Nat->List Value) (bo:Nat×Nat)
  (hk:dO k) (hn:dO n) (hs:s.size<=lim) (hl:args.length<=lim) (hc:args.length<=cap) (ha:0<args.length->a=some ⟨bo.1,bo.2,none⟩)
  (hsz:∀i,i<args.length->(es i).length=4) (hcell:∀i,i<args.length->∀j x,(es i)[j]? =some x->H bo.1 (bo.2+i*4+j)=some x)
  (hr:∀i (h:i<args.length),RTm H (es i) args[i]):
  RTm H [.int .i64 k,.int .i64 n,.string s,.slice a args.length cap] (.mk k n s args)
abbrev O6(H:Hp)(a:Option Addr)(l:List Tm):Prop:=Sl H 4 (RTm H) a l
theorem RTm.inv{H:Hp}{cs:List Value}{k n:Int}{s:ByteArray}{l:List Tm}(h:RTm H cs (.mk k n s l)):
  ∃a cap,cs=[.int .i64 k,.int .i64 n,.string s,.slice a l.length cap]/\dO k/\dO n/\s.size<=lim/\l.length<=cap/\O6 H a l:=by
 cases h with
 |mk k n s a cap args es e hk f hs g j m c b hr=>
  exact⟨a,cap,rfl,hk,f,hs,j,⟨g,λi d=>⟨e.1,e.2,es i,m (by omega),c i d,b i d,hr i d⟩⟩⟩
theorem RTm.intro{H:Hp}{k n:Int}{s:ByteArray}{a:Option Addr}{cap:Nat}{l:List Tm}(hk:dO k)(f:dO n)(hs:s.size<=lim)(g:l.length<=cap)(h:O6 H a l):
  RTm H [.int .i64 k,.int .i64 n,.string s,.slice a l.length cap] (.mk k n s l):=by
 by_cases p:0<l.length
 .obtain ⟨b,o,q⟩:=h.addr p;subst q
  have d:∀i,∃cs:List Value,i<l.length->cs.length=4/\(∀j x,cs[j]? =some x->H b (o+i*4+j)=some x)/\∀c:i<l.length,RTm H cs l[i]:=by
   intro i
   by_cases c:i<l.length
   .obtain ⟨v,o',cs,m,u,t,r⟩:=h.at_ i c;simp only[zN,Addr.mk.injEq,and_true] at m;obtain⟨rfl,rfl⟩:=m;exact⟨cs,λ_=>⟨u,t,λ_=>r⟩⟩
   .exact ⟨[],λe=>(c e).elim⟩
  exact .mk k n s _ cap l (λi=>(d i).choose) (b,o) hk f hs h.le g (λ_=>rfl) (λi c=>((d i).choose_spec c).1) (λi c=>((d i).choose_spec c).2.1) (λi c=>((d i).choose_spec c).2.2 c)
 .exact .mk k n s a cap l (λ_=>[]) (0,0) hk f hs h.le g (λe=>(p e).elim) (λi c=>by omega) (λi c=>by omega) (λi c=>by omega)
theorem RTm.one{H:Hp}{cs:List Value}{t:Tm}(h:RTm H cs t):∀u∈cs,u.oneCell'=true:=by
 cases h;simp[Value.oneCell']
end Go.CK
namespace Go.CK
open Go.RowKit
def RSl{α:Type}(sz:Nat)(R:Hp->List Value->α->Prop)(H:Hp)(c:List Value)(l:List α):Prop:=∃a k,c=[.slice a l.length k]/\l.length<=k/\Sl H sz (R H) a l
@[ext] structure At where
 name:ByteArray
 args:List Tm
deriving DecidableEq
def RAt(H:Hp)(c:List Value)(x:At):Prop:=∃b a,c=[.string x.name,.slice b x.args.length a]/\x.name.size<=lim/\x.args.length<=a/\Sl H 4 (RTm H) b x.args
theorem RAt.one{H:Hp}{c:List Value}{x:At}(h:RAt H c x):∀u∈c,u.oneCell'=true:=by
 obtain⟨b,a,rfl,_h0,_h1,_h2⟩:=h;simp[Value.oneCell']
@[ext] structure Gl where
 op:Int
 name:ByteArray
 args:List Tm
deriving DecidableEq
def RGl(H:Hp)(c:List Value)(x:Gl):Prop:=∃b a,c=[.int .i64 x.op,.string x.name,.slice b x.args.length a]/\dO x.op/\x.name.size<=lim/\x.args.length<=a/\Sl H 4 (RTm H) b x.args
theorem RGl.one{H:Hp}{c:List Value}{x:Gl}(h:RGl H c x):∀u∈c,u.oneCell'=true:=by
 obtain⟨b,a,rfl,_h0,_h1,_h2,_h3⟩:=h;simp[Value.oneCell']
@[ext] structure Dc where
 name:ByteArray
 arity:Int
deriving DecidableEq
def RDc(_H:Hp)(c:List Value)(x:Dc):Prop:=c=[.string x.name,.int .i64 x.arity]/\x.name.size<=lim/\dO x.arity
theorem RDc.one{H:Hp}{c:List Value}{x:Dc}(h:RDc H c x):∀u∈c,u.oneCell'=true:=by
 obtain⟨rfl,_h0,_h1⟩:=h;simp[Value.oneCell']
@[ext] structure Rl where
 name:ByteArray
 keep:List At
 remove:List At
 guard:List Gl
 body:List Gl
 vars:Int
deriving DecidableEq
def RRl(H:Hp)(c:List Value)(x:Rl):Prop:=∃e d a2 k2 a3 b a4 a,c=[.string x.name,.slice e x.keep.length d,.slice a2 x.remove.length k2,.slice a3 x.guard.length b,.slice a4 x.body.length a,.int .i64 x.vars]/\x.name.size<=lim/\x.keep.length<=d/\Sl H 2 (RAt H) e x.keep/\x.remove.length<=k2/\Sl H 2 (RAt H) a2 x.remove/\x.guard.length<=b/\Sl H 3 (RGl H) a3 x.guard/\x.body.length<=a/\Sl H 3 (RGl H) a4 x.body/\dO x.vars
theorem RRl.one{H:Hp}{c:List Value}{x:Rl}(h:RRl H c x):∀u∈c,u.oneCell'=true:=by
 obtain⟨e,d,a2,k2,a3,b,a4,a,rfl,_h0,_h1,_h2,_h3,_h4,_h5,_h6,_h7,_h8,_h9⟩:=h;simp[Value.oneCell']
@[ext] structure Pg where
 decls:List Dc
 rules:List Rl
deriving DecidableEq
def RPg(H:Hp)(c:List Value)(x:Pg):Prop:=∃b a a2 k2,c=[.slice b x.decls.length a,.slice a2 x.rules.length k2]/\x.decls.length<=a/\Sl H 2 (RDc H) b x.decls/\x.rules.length<=k2/\Sl H 6 (RRl H) a2 x.rules
theorem RPg.one{H:Hp}{c:List Value}{x:Pg}(h:RPg H c x):∀u∈c,u.oneCell'=true:=by
 obtain⟨b,a,a2,k2,rfl,_h0,_h1,_h2,_h3⟩:=h;simp[Value.oneCell']
@[ext] structure Oc where
 rule:Int
 head:Int
 kept:Bool
deriving DecidableEq
@[ext] structure Bd where
 var:Int
 term:Tm
deriving DecidableEq
def RBd(H:Hp)(c:List Value)(x:Bd):Prop:=∃c1,c=[.int .i64 x.var]++c1/\dO x.var/\RTm H c1 x.term
theorem RBd.one{H:Hp}{c:List Value}{x:Bd}(h:RBd H c x):∀u∈c,u.oneCell'=true:=by
 obtain⟨c1,rfl,_h0,_h1⟩:=h;have a:=_h1.one;intro u hu;simp only[zY,zI,yU,or_false] at hu;rcases hu with hu|hu
 all_goals first|exact a u hu|(subst hu;rfl)|(rcases hu with hu|hu<;>subst hu<;>rfl)|(rcases hu with hu|hu|hu<;>subst hu<;>rfl)
@[ext] structure It where
 id:Int
 atom:At
deriving DecidableEq
def RIt(H:Hp)(c:List Value)(x:It):Prop:=∃c1,c=[.int .i64 x.id]++c1/\dO x.id/\RAt H c1 x.atom
theorem RIt.one{H:Hp}{c:List Value}{x:It}(h:RIt H c x):∀u∈c,u.oneCell'=true:=by
 obtain⟨c1,rfl,_h0,_h1⟩:=h;have a:=_h1.one;intro u hu;simp only[zY,zI,yU,or_false] at hu;rcases hu with hu|hu
 all_goals first|exact a u hu|(subst hu;rfl)|(rcases hu with hu|hu<;>subst hu<;>rfl)|(rcases hu with hu|hu|hu<;>subst hu<;>rfl)
@[ext] structure Ft where
 id:Int
 atom:At
 just:List Int
deriving DecidableEq
@[ext] structure Fr where
 rule:Int
 ids:List Int
deriving DecidableEq
@[ext] structure Fm where
 goal:Gl
 id:Int
 occ:Int
deriving DecidableEq
@[ext] structure Ev where
 kind:Int
 id:Int
 occ:Int
 rule:Int
 ids:List Int
deriving DecidableEq
@[ext] structure Pl where
 occ:Oc
 order:List Int
 known:List (List Int)
 tests:List (List Int)
deriving DecidableEq
@[ext] structure Ac where
 name:ByteArray
 arity:Int
 positions:List Int
deriving DecidableEq
@[ext] structure Ky where
 name:ByteArray
 arity:Int
 positions:List Int
deriving DecidableEq
@[ext] structure Ak where
 rule:Int
 head:Int
 done:List Int
deriving DecidableEq
@[ext] structure Ct where
 rules:List Int
 tried:Int
 goals:Int
 steps:Int
deriving DecidableEq
end Go.CK
namespace Go.CK
open Go.RowKit Go.AM
abbrev aG(n:Int):AV:=.int .i64 n
abbrev slA{α:Type}(f:α->AV)(l:List α):AV:=.sl .no (l.map f)
def CF(M:Hp)(cs:List AV)(c:List Value):Prop:=c.length=cs.length/\∀j (h:j<cs.length) v,c[j]? =some v->FV M cs[j] v
theorem CF.nil{M:Hp}:CF M [] []:=⟨rfl,λj h=>by cases h⟩
theorem CF.cons{M:Hp}{x:AV}{cs:List AV}{v:Value}{c:List Value}(h:FV M x v)(k:CF M cs c):CF M (x::cs) (v::c):=
 ⟨by simp[k.1],λj a u hu=>by
  cases j with
  |zero=>simp only[Zl,zN] at hu;subst hu;exact h
  |succ j=>exact k.2 j (by simpa using a) u (by simpa using hu)⟩
theorem CF.app{M:Hp}{cs ds:List AV}{c d:List Value}(h:CF M cs c)(k:CF M ds d):CF M (cs++ds) (c++d):=by
 refine⟨by simp[h.1,k.1],λj a u hu=>?_⟩
 by_cases e:j<cs.length
 .rw [zK (by rw[h.1];exact e)] at hu
  rw[ZH e];exact h.2 j e u hu
 .rw [zZ (by rw[h.1];omega)] at hu
  rw[ZW (by omega)]
  have:=k.2 (j-cs.length) (by simp at a;omega) u (by rw[h.1] at hu;exact hu)
  exact this
theorem CF.agg{M:Hp}{cs:List AV}{c:List Value}(h:CF M cs c)(a:∀u∈c,u.oneCell'=true):FV M (.agg cs) (.agg c.toArray):=.agg cs c h.1 a h.2
theorem Sl.fv{α:Type}{R:Hp->List Value->α->Prop}{f:α->AV}{M:Hp}{sz:Nat}{a:Option Addr}{l:List α}{k:Nat}(h:Sl M sz (R M) a l)(hk:l.length<=k)(s:∀x∈l,∀c,R M c x->CF M (f x).cells c/\∀u∈c,u.oneCell'=true):FV M (.sl .no (l.map f)) (.slice a l.length k):=by
 have hlen:(l.map f).length=l.length:=by simp
 rw[<-hlen]
 by_cases C:0<l.length
 .obtain ⟨b,o,q⟩:=h.addr C;refine FV.jw (B:=b) (off:=o) (sz:=sz) (λz e=>by cases e) (by rw[hlen];exact hk) (by rw[hlen];exact h.le) (λe=>by cases e) (λ_=>q) (λi m=>?_)
  rw[hlen] at m;obtain⟨D,o',cs,n,A,y,w⟩:=h.at_ i m;rw[q] at n;simp only[zN,Addr.mk.injEq,and_true] at n;obtain⟨rfl,rfl⟩:=n;obtain⟨⟨r,v⟩,t⟩:=s _ (zc m) cs w;rw[ZD];refine⟨by rw[<-r,A],λj p=>?_⟩
  have g:j<cs.length:=by rw[r];exact p
  have d:cs[j]? =some cs[j]:=zA g;exact⟨cs[j],y j _ d,t _ (zc g),v j p _ d⟩
 .have:l=[]:=ZV.1 (by omega)
  subst this;exact FV.jw (B:=0) (off:=0) (sz:=0) (λz e=>by cases e) (by simp) (by simp) (λe=>by cases e) (λe=>absurd rfl e) (λi m=>by cases m)
theorem RSl.cf{α:Type}{R:Hp->List Value->α->Prop}{f:α->AV}{M:Hp}{sz:Nat}{c:List Value}{l:List α}(h:RSl sz R M c l)(b:∀x∈l,∀c,R M c x->CF M (f x).cells c/\∀u∈c,u.oneCell'=true):CF M (slA f l).cells c/\∀u∈c,u.oneCell'=true:=by
 obtain⟨a,k,rfl,e,d⟩:=h;exact⟨.cons (d.fv e b) .nil,by simp[Value.oneCell']⟩
mutual
def Tm.av:Tm->AV
 |.mk k n s l=>.agg [.int .i64 k,.int .i64 n,.str s,.sl .no (Tm.avs l)]
def Tm.avs:List Tm->List AV
 |[]=>[]
 |t::l=>Tm.av t::Tm.avs l
end
theorem Tm.tP:∀l:List Tm,Tm.avs l=l.map Tm.av
 |[]=>rfl
 |t::l=>by rw[Tm.avs,Tm.tP l];rfl
def Tm.avw(t:Tm):AV:=.agg [.int .i64 t.kind,.int .i64 t.num,.str t.name,.sl .no (t.args.map Tm.av)]
theorem Tm.pM(t:Tm):t.av=t.avw:=by
 obtain⟨k,n,s,l⟩:=t;rw[Tm.av,Tm.tP];rfl
theorem Tm.qY(t:Tm):t.av.cells.length=4:=by rw[Tm.pM];rfl
theorem RTm.cf{M:Hp}{c:List Value}{t:Tm}(h:RTm M c t):CF M t.av.cells c/\∀u∈c,u.oneCell'=true:=by
 refine⟨?_,h.one⟩
 induction t using Tm.bA generalizing c with
 |h k n s l ih=>
  obtain⟨a,cap,rfl,ik,iN,is,e,b⟩:=h.inv;rw[Tm.av,Tm.tP];exact .cons (.int _ _) (.cons (.int _ _) (.cons (.str _ is) (.cons (b.fv e λx f c d=>⟨ih x f d,d.one⟩) .nil)))
end Go.CK
namespace Go.AM
def AV.good(x:AV):Prop:=∃M v,FV M x v
end Go.AM
namespace Go.CK
open Go.RowKit Go.AM
theorem nP{s:ByteArray}(h:(AV.str s).good):s.size<=4294967296:=by
 obtain⟨M,v,h⟩:=h
 cases h with
 |str _ h=>exact h
theorem bQ{cs:List AV}(h:(AV.agg cs).good):∀c∈cs,c.good:=by
 obtain⟨M,v,h⟩:=h
 cases h with
 |agg _ vs e f a=>
  intro c d;obtain⟨j,b,rfl⟩:=Zq d;exact⟨M,vs[j],a j b _ (zA (by omega))⟩
theorem Mw{o:Cap}{l:List AV}(h:(AV.sl o l).good):l.length<=4294967296/\∀y∈l,y.good:=by
 obtain⟨M,v,h⟩:=h;obtain⟨a,k,B,off,sz,_,_,_,q,_,_,he⟩:=h.cX;refine⟨q,λy n=>?_⟩;obtain⟨i,r,rfl⟩:=Zq n;obtain⟨_,f⟩:=he i r;generalize l[i]=y at f
 by_cases m:∃cs,y=.agg cs
 .obtain ⟨cs,rfl⟩:=m
  have e:∀j,∃v:Value,∀(h:j<cs.length),v.oneCell'=true/\FV M cs[j] v:=λj=>by
   by_cases c:j<cs.length
   .obtain ⟨v,_,s,d⟩:=f j c;exact⟨v,λ_=>⟨s,d⟩⟩
   .exact ⟨undef,λh=>absurd h c⟩
  refine⟨M,.agg (List.ofFn λj:Fin cs.length=>(e j).choose).toArray,.agg cs _ (by simp) (λv p=>?_) (λj c v b=>?_)⟩
  .obtain ⟨j,rfl⟩:=List.mem_ofFn.1 p;exact((e j).choose_spec j.2).1
  .rw [List.getElem?_ofFn,dif_pos c] at b;cases b;exact((e j).choose_spec c).2
 .have g:y.cells=[y]:=by
   cases y<;>first|rfl|exact absurd ⟨_,rfl⟩ m
  obtain⟨v,_,_,d⟩:=f 0 (by rw[g];simp)
  have:y.cells[0]'(by rw[g];simp)=y:=by simp[g]
  rw[this] at d;exact⟨M,v,d⟩
theorem aS{α:Type}{f:α->AV}{l:List α}(h:(AV.sl .no (l.map f)).good):l.length<=4294967296/\∀y∈l,(f y).good:=by
 obtain⟨c,b⟩:=Mw h;exact⟨by simpa using c,λy a=>b _ (zk.2 ⟨y,a,rfl⟩)⟩
theorem ox{t:Tm}(h:t.avw.good):t.name.size<=4294967296/\t.args.length<=4294967296/\∀x∈t.args,x.avw.good:=by
 have hs:=aS (bQ h (.sl .no (t.args.map Tm.av)) (by simp))
 exact⟨nP (bQ h (.str t.name) (by simp)),hs.1,λx a=>by rw[<-Tm.pM];exact hs.2 x a⟩
theorem vJ{t:Tm}(h:t.av.good):t.avw.good:=by rw[<-Tm.pM];exact h
theorem Fun.assume{P:Program}{f:FuncId}{ab:List AV}{r:AV}(e:ab.all AV.flat=true)(h:(∀x∈ab,x.good)->Fun P f ab r):Fun P f ab r:=λbs E G a0 w args lo i g c=>by
 refine h (λx d=>?_) bs E G a0 w args lo i g c;obtain⟨j,b,rfl⟩:=Zq d;have a:args[j]? =some (args[j]'(by omega)):=zA (by omega)
 exact⟨G.M,_,(c j b _ a).Jg (zS.1 e _ (zc b))⟩
theorem dz.tmK{l:List Tm}{n:Nat}{K:AV->Prop}{x:Tm}(h:l[n]? =some x)(k:K x.avw):dz 4 (l.map Tm.av) (n:Int) K:=.known (by simpa using h) (by omega) Tm.qY (by rw[Tm.pM];exact k)
theorem dz.tmKI{l:List Tm}{n:Int}{K:AV->Prop}{x:Tm}(h:l[n.toNat]? =some x)(a:0<=n)(k:K x.avw):dz 4 (l.map Tm.av) n K:=.known h a Tm.qY (by rw[Tm.pM];exact k)
theorem dz.tm{l:List Tm}{n:Nat}{K:AV->Prop}(b:n<l.length)(k:∀x,l[n]? =some x->K x.avw):dz 4 (l.map Tm.av) (n:Int) K:=.OK b Tm.qY λx a=>by rw[Tm.pM];exact k x a
theorem Szs.tm{l:List Tm}:Szs 4 (l.map Tm.av):=.map Tm.qY
def At.av(x:At):AV:=.agg [.str x.name,.sl .no (x.args.map Tm.av)]
theorem RAt.cf{M:Hp}{c:List Value}{x:At}(h:RAt M c x):CF M x.av.cells c/\∀u∈c,u.oneCell'=true:=by
 refine⟨?_,h.one⟩;obtain⟨g,f,rfl,d,b,a⟩:=h;exact(.cons (.str x.name d) (.cons (a.fv b (λ_ _ _ e=>RTm.cf e)) .nil))
theorem At.good{x:At}(h:x.av.good):x.name.size<=4294967296/\(x.args.length<=4294967296/\∀y∈x.args,y.avw.good):=⟨nP (bQ h (.str x.name) (by simp)),⟨(aS (bQ h (.sl .no (x.args.map Tm.av)) (by simp))).1,λy a=>vJ ((aS (bQ h (.sl .no (x.args.map Tm.av)) (by simp))).2 y a)⟩⟩
def Gl.av(x:Gl):AV:=.agg [.int .i64 x.op,.str x.name,.sl .no (x.args.map Tm.av)]
theorem RGl.cf{M:Hp}{c:List Value}{x:Gl}(h:RGl M c x):CF M x.av.cells c/\∀u∈c,u.oneCell'=true:=by
 refine⟨?_,h.one⟩;obtain⟨g,f,rfl,_,d,b,a⟩:=h;exact(.cons (.int .i64 x.op) (.cons (.str x.name d) (.cons (a.fv b (λ_ _ _ e=>RTm.cf e)) .nil)))
theorem Gl.good{x:Gl}(h:x.av.good):x.name.size<=4294967296/\(x.args.length<=4294967296/\∀y∈x.args,y.avw.good):=⟨nP (bQ h (.str x.name) (by simp)),⟨(aS (bQ h (.sl .no (x.args.map Tm.av)) (by simp))).1,λy a=>vJ ((aS (bQ h (.sl .no (x.args.map Tm.av)) (by simp))).2 y a)⟩⟩
def Dc.av(x:Dc):AV:=.agg [.str x.name,.int .i64 x.arity]
theorem RDc.cf{M:Hp}{c:List Value}{x:Dc}(h:RDc M c x):CF M x.av.cells c/\∀u∈c,u.oneCell'=true:=by
 refine⟨?_,h.one⟩;obtain⟨rfl,a,_⟩:=h;exact(.cons (.str x.name a) (.cons (.int .i64 x.arity) .nil))
def Rl.av(x:Rl):AV:=.agg [.str x.name,.sl .no (x.keep.map At.av),.sl .no (x.remove.map At.av),.sl .no (x.guard.map Gl.av),.sl .no (x.body.map Gl.av),.int .i64 x.vars]
theorem RRl.cf{M:Hp}{c:List Value}{x:Rl}(h:RRl M c x):CF M x.av.cells c/\∀u∈c,u.oneCell'=true:=by
 refine⟨?_,h.one⟩;obtain⟨p,o,a2,k2,a3,n,a4,m,rfl,l,k,j,i,g,f,e,d,b,_⟩:=h;exact(.cons (.str x.name l) (.cons (j.fv k (λ_ _ _ a=>RAt.cf a)) (.cons (g.fv i (λ_ _ _ a=>RAt.cf a)) (.cons (e.fv f (λ_ _ _ a=>RGl.cf a)) (.cons (b.fv d (λ_ _ _ a=>RGl.cf a)) (.cons (.int .i64 x.vars) .nil))))))
theorem Rl.good{x:Rl}(h:x.av.good):x.name.size<=4294967296/\(x.keep.length<=4294967296/\∀y∈x.keep,(At.av y).good)/\(x.remove.length<=4294967296/\∀y∈x.remove,(At.av y).good)/\(x.guard.length<=4294967296/\∀y∈x.guard,(Gl.av y).good)/\(x.body.length<=4294967296/\∀y∈x.body,(Gl.av y).good):=⟨nP (bQ h (.str x.name) (by simp)),aS (bQ h (.sl .no (x.keep.map At.av)) (by simp)),aS (bQ h (.sl .no (x.remove.map At.av)) (by simp)),aS (bQ h (.sl .no (x.guard.map Gl.av)) (by simp)),aS (bQ h (.sl .no (x.body.map Gl.av)) (by simp))⟩
def Pg.av(x:Pg):AV:=.agg [.sl .no (x.decls.map Dc.av),.sl .no (x.rules.map Rl.av)]
theorem RPg.cf{M:Hp}{c:List Value}{x:Pg}(h:RPg M c x):CF M x.av.cells c/\∀u∈c,u.oneCell'=true:=by
 refine⟨?_,h.one⟩;obtain⟨i,g,a2,k2,rfl,f,e,d,b⟩:=h;exact(.cons (e.fv f (λ_ _ _ a=>RDc.cf a)) (.cons (b.fv d (λ_ _ _ a=>RRl.cf a)) .nil))
theorem Pg.good{x:Pg}(h:x.av.good):(x.decls.length<=4294967296/\∀y∈x.decls,(Dc.av y).good)/\(x.rules.length<=4294967296/\∀y∈x.rules,(Rl.av y).good):=⟨aS (bQ h (.sl .no (x.decls.map Dc.av)) (by simp)),aS (bQ h (.sl .no (x.rules.map Rl.av)) (by simp))⟩
theorem RPg.fv{M:Hp}{c:List Value}{x:Pg}(h:RPg M c x):FV M x.av (.agg c.toArray):=h.cf.1.agg h.cf.2
def Oc.av(x:Oc):AV:=.agg [.int .i64 x.rule,.int .i64 x.head,.bool x.kept]
def It.av(x:It):AV:=.agg [.int .i64 x.id,.str x.atom.name,.sl .no (x.atom.args.map Tm.av)]
theorem RIt.cf{M:Hp}{c:List Value}{x:It}(h:RIt M c x):CF M x.av.cells c/\∀u∈c,u.oneCell'=true:=by
 refine⟨?_,h.one⟩;obtain⟨c1,rfl,_,a⟩:=h;have t:=(CF.app (CF.cons (FV.int .i64 x.id) CF.nil) (RAt.cf a).1);exact t
def Pl.av(x:Pl):AV:=.agg [.int .i64 x.occ.rule,.int .i64 x.occ.head,.bool x.occ.kept,.sl .no (x.order.map aG),.sl .no (x.known.map (slA aG)),.sl .no (x.tests.map (slA aG))]
def Ac.av(x:Ac):AV:=.agg [.str x.name,.int .i64 x.arity,.sl .no (x.positions.map aG)]
def Ky.av(x:Ky):AV:=.agg [.str x.name,.int .i64 x.arity,.sl .no (x.positions.map aG)]
end Go.CK
namespace Go.AM
open Go.CK Go.RowKit
def scalar:AV->Bool
 |.bool _=>true
 |.int _ _=>true
 |.str _=>true
 |_=>false
def Vw(bs:List Box)(x y:AV):Prop:=∀(E:Entry) (G:Gh) (a:Act) (w:World) (lo:Nat),RS E G ⟨[],bs,lo⟩ a w->∀v,RV G.M G.σ bs.length x v->RV (Hp.of w) G.σ 0 y v
theorem Vw.same{bs:List Box}{x:AV}(h:x.flat=true):Vw bs x x:=λ_ _ _ _ _ hs _ a=>.flat ((a.Jg h).mono hs.ok)
theorem Vw.row{α:Type}{f:α->AV}{z:Nat}(hp:Plain f z){bs:List Box}{b m k:Nat}{l:List α}(hb:bs[b]? =some (aJ f z k l))(hm:m=l.length):Vw bs (.bsl b m k) (.sl .no (l.map f)):=λE G a w lo hs v K=>by
 refine .flat ?_;subst hm;obtain⟨Q,rfl,O,q,n,A⟩:=K.cj;have I:∀y∈l.map f,y.cells.length=z:=λy J=>by obtain⟨x,_,rfl⟩:=zk.1 J;exact hp.sz x
 have c:(l.map f).length=l.length:=by simp
 by_cases hk:k=0
 .subst hk;have L:l=[]:=zL (by omega)
  subst L;exact FV.jw (l:=[]) (B:=0) (off:=0) (sz:=z) (by simp) (zG _) (zJ _) (by simp) (λh=>absurd rfl h) (λi N=>by cases N)
 .have g:cellsOf (l.map f)++List.replicate ((k-l.length)*z) .top≠[]:=λe=>by
   have:=congrArg List.length e;rw[zC,hp.len,zf,<-ZL,ZP] at this;have H:0<(l.length+(k-l.length))*z:=Nat.mul_pos (by omega) hp.pos
   omega
  have t:aa bs b=some (cellsOf (l.map f)++List.replicate ((k-l.length)*z) .top):=db (ed hb) g;rw[A hk]
  have r:gl (Hp.of w) (G.σ b) 0 z (l.map f):=gl.A2 (p:=List.replicate ((k-l.length)*z) .top) I λj C=>by
   obtain⟨u,P,H,F⟩:=hs.wq (s:=⟨[],bs,lo⟩) t j C;refine⟨u,by rw[ZI];exact P,H,?_⟩
   have D:(cellsOf (l.map f)++List.replicate ((k-l.length)*z) AV.top)[j].aI=(cellsOf (l.map f)++List.replicate ((k-l.length)*z) AV.top)[j]/\(cellsOf (l.map f)++List.replicate ((k-l.length)*z) AV.top)[j].aZ=true:=by
    have:=zc C;rcases zY.1 this with d|d
    .exact hp.mem d
    .rw [(ZY.1 d).2];exact⟨rfl,rfl⟩
   rw[D.1] at F;exact(F.aZ D.2).mono hs.ok
  have:=FV.jw (M:=Hp.of w) (o:=.no) (l:=l.map f) (a:=some ⟨G.σ b,0,none⟩) (k:=k) (B:=G.σ b) (off:=0) (sz:=z) (by simp) (by rw[c];exact q) (by rw[c];exact n) (by simp) (λ_=>rfl) r
  rw[c] at this;exact this
inductive Vws (bs:List Box):List AV->List AV->Prop
 |nil:Vws bs [] []
 |cons {x y:AV} {xs ys:List AV} (h:Vw bs x y) (k:Vws bs xs ys):Vws bs (x::xs) (y::ys)
theorem Vws.len{bs:List Box}{xs ys:List AV}(h:Vws bs xs ys):ys.length=xs.length:=by
 induction h with
 |nil=>rfl
 |cons _ _ ih=>simp[ih]
theorem Vws.get{bs:List Box}{xs ys:List AV}(h:Vws bs xs ys):∀j (b:j<xs.length) (a:j<ys.length),Vw bs xs[j] ys[j]:=by
 induction h with
 |nil=>intro j b;cases b
 |cons h _ ih=>
  intro j b a
  cases j with
  |zero=>exact h
  |succ j=>exact ih j (by simpa using b) (by simpa using a)
theorem Fun.view{P:Program}{f:FuncId}{ab m:List AV}{r:AV}{bs:List Box}(h:Fun P f m r)(hr:scalar r=true)(S:Vws bs ab m):Sem P f ab bs λr' bs'=>r'=r/\bs'=bs:=by
 intro E G a0 w args lo a hl J
 have h0:RS ⟨λ_=>False,Hp.of w,w,0,0,G.σ,[]⟩ ⟨Hp.of w,G.σ,λ_=>none⟩ ⟨[],[],0⟩ ⟨#[],[]⟩ w:=by
  have F:∀p x,(⟨[],[],0⟩:St).at p=some x->False:=λp x hp=>by
   cases p with
   |sl t=>simp[St.at,au] at hp
   |bx b j=>simp[St.at,aa] at hp
  have C:∀b cs,aa ([]:List Box) b=some cs->False:=λb cs hb=>by simp[aa] at hb
  exact⟨Fr.refl _ _ _ (a.fr.kn.mono a.ok),Hp.le_refl _,rfl,λp x hp=>(F p x hp).elim,λb j x hp=>(F _ x hp).elim,λb cs hb=>(C b cs hb).elim,λb cs hb=>(C b cs hb).elim,λb H cs cs' hb _ _=>(C b cs hb).elim,λp z l hp=>(F p _ hp).elim,(λp q B hp=>by cases hp),(λp B hp=>by cases hp),(λp B hp=>by cases hp),rfl,zG _,(λb hb=>by cases hb),Sp.none _ _ _ _ _ _⟩
 refine(h [] _ _ _ w args 0 h0 (by rw[hl,S.len]) (λj R v V=>?_)).mono ?_
 .have N:j<ab.length:=by rw[<-S.len];exact R
  exact S.get j N R E G a0 w lo a v (J j N v V)
 .rintro e w' ⟨v,r',bs',G',rfl,⟨rfl,_⟩,Y⟩;refine⟨v,r',bs,⟨G.M,G.σ,λp=>match p with|.sl _=>none|.bx b j=>G.cl (.bx b j)⟩,rfl,⟨rfl,rfl⟩,?_⟩
  have d:∀B,¬eo ⟨Hp.of w,G.σ,λ_=>none⟩ [] B:=λB hB=>by
   rcases hB with ⟨b,cs,hb,_⟩|⟨b,j,hb⟩|⟨b,x,hb,_⟩
   .simp [aa] at hb
   .cases hb
   .exact dm hb
  have c:Fr (eo ⟨Hp.of w,G.σ,λ_=>none⟩ []) (Hp.of w) w G'.M w':=Y.fr;have O:(⟨[(0,r')],bs',([]:List Box).length⟩:St).at (.sl 0)=some r':=rfl
  have A:∀p x,(⟨[(0,r')],bs,bs.length⟩:St).at p=some x->(p=.sl 0/\x=r')\/(∃b j,p=.bx b j/\(⟨[],bs,lo⟩:St).at (.bx b j)=some x):=λp x hp=>by
   cases p with
   |sl t=>
    simp only[St.at,au] at hp;split at hp
    .rename_i hb;have:=zO hb;subst this;cases hp;exact .inl ⟨rfl,rfl⟩
    .cases hp
   |bx b j=>exact .inr ⟨b,j,rfl,hp⟩
  have D:∀b j x,(⟨[],bs,lo⟩:St).at (.bx b j)=some x->aw G.σ ⟨#[v],[]⟩ w' (.bx b j)=aw G.σ a0 w (.bx b j):=λb j x g=>by
   simp only[St.at] at g
   cases hb:aa bs b with
   |none=>rw[hb] at g;cases g
   |some cs=>simp only[aw];rw[bN (c.heap _ (a.blt hb) (d _))]
  have U:RV G.M G.σ bs.length r'.aI v:=by
   have i:=Y.val _ _ O
   cases r' with
   |bool b=>exact .flat (by have:=i.cS;rw[show v=.bool b from this];exact .bool b)
   |int k n=>exact .flat (by have:=i.aK;rw[show v=.int k n from this];exact .int k n)
   |str s=>exact .flat (by have:=i.cK;rw[show v=.string s from this.1];exact .str s this.2)
   |_=>cases hr
  refine⟨⟨c.os,c.tape,c.output,c.size,Hp.le_refl _,λB hB _=>c.heap B hB (d B),λB hB _ _=>rfl,a.fr.kn.keep (c.heap _ a.fr.kn.lt (d _))⟩,Hp.le_trans a.ok (Hp.le_trans c.le Y.ok),rfl,λp x hp=>?_,λb j x hp=>?_,λb cs hb=>?_,λb cs hb=>?_,a.inj,λp z l hp=>?_,λp q B hp K=>?_,λp B hB b cs hb=>?_,λp B hB=>?_,rfl,zG _,λ_ _=>rfl,?_⟩
  .rcases A p x hp with ⟨rfl,rfl⟩|⟨b,j,rfl,g⟩
   .exact U
   .show RV G.M G.σ bs.length x.aI _;rw[D b j x g];exact a.val _ _ g
  .rcases A _ x hp with ⟨e,_⟩|⟨H,I,e,g⟩
   .cases e
   .cases e;show (aw G.σ _ w' _).oneCell'=true;rw[D b j x g];exact a.one _ _ _ g
  .obtain ⟨vs,T,i,Q⟩:=a.box b cs hb;exact⟨vs,T,(c.heap _ (a.blt hb) (d _)).trans i,Q⟩
  .obtain ⟨i,_⟩:=a.bmem b cs hb;exact⟨i,.inl (.inl ⟨b,cs,hb,rfl⟩)⟩
  .rcases A p _ hp with ⟨rfl,g⟩|⟨b,j,rfl,g⟩
   .subst g;cases hr
   .obtain ⟨ad,k,i,Q,X⟩:=a.own _ _ _ g;refine⟨ad,k,(D b j _ g).trans i,Q,?_⟩;rcases X with X|⟨B,hB,h4,W⟩
    .exact .inl X
    .have y:=(a.cllt _ B hB).1;obtain⟨vs,T,h6,h7⟩:=W.cells;exact .inr ⟨B,hB,h4,W.lt,⟨vs,T,(c.heap B y (d B)).trans h6,h7⟩,W.free,.inl (.inr (.inl ⟨b,j,hB⟩))⟩
  .cases p with
   |sl t=>cases hp
   |bx b j=>
    cases q with
    |sl u=>cases K
    |bx H I=>exact a.clinj _ _ B hp K
  .cases p with
   |sl t=>cases hB
   |bx H I=>exact a.clbox _ B hB b cs hb
  .cases p with
   |sl t=>cases hB
   |bx H I=>exact⟨ZT (a.cllt _ B hB).1 c.size,.inl (.inr (.inl ⟨H,I,hB⟩))⟩
  .refine ⟨λB o hs=>?_,λb x hb=>?_,a.sp.inj,⟨[],rfl,.nil⟩,λb x hb j B o R=>by
    obtain⟨q1,Z,q3⟩:=a.sp.rows b x hb j B o R;have y:=(a.cllt _ B Z).1;exact⟨(c.heap B y (d B)).trans q1,Z,q3⟩⟩
   .rcases hs with ⟨b,x,hb,e,ho⟩|⟨L,_⟩
    .obtain ⟨i,Q,_⟩:=a.sp.ob B o (.inl ⟨b,x,hb,e,ho⟩);have y:=(zh.1 i).1;refine⟨(c.heap B y (d B)).trans i,λp hp=>?_,.inl (.inr (.inr ⟨b,x,hb,e⟩))⟩
     cases p with
     |sl t=>cases hp
     |bx H I=>exact Q _ hp
    .cases L
   .exact a.sp.base b x hb
theorem ae.view{P:Program}{f:FuncId}{ab raw a:List AV}{r:AV}{bs:List Box}{K:AV->List Box->Prop}(h:Fun P f a r)(hr:scalar r=true)(b:Vws bs raw a)(c:K r bs):ae P f ab raw bs K:=
 .raw (h.view hr b) λr' bs' ⟨e,d⟩=>by subst e d;exact c
theorem Sem.assume{P:Program}{f:FuncId}{ab:List AV}{bs:List Box}{Q:AV->List Box->Prop}(h:(∀x∈ab,x.flat=true->x.good)->(∀cs,AV.ept cs∈ab->∀c∈cs,c.good)->Sem P f ab bs Q):Sem P f ab bs Q:=λE G a0 w args lo q p g=>by
 refine h (λx a m=>?_) (λcs a c n=>?_) E G a0 w args lo q p g
 .obtain ⟨j,b,rfl⟩:=Zq a;exact⟨G.M,_,(g j b _ (zA (by omega))).Jg m⟩
 .obtain ⟨j,b,e⟩:=Zq a;have k:=g j b _ (zA (by omega))
  rw[e] at k;obtain⟨B,off,_,d⟩:=k.qH;obtain⟨i,l,rfl⟩:=Zq n;obtain⟨v,_,_,o⟩:=d i l;exact⟨G.M,v,o⟩
theorem oe.EU{α:Type}{f:α->AV}{z:Nat}(hp:Plain f z){e:List (Nat×AV)}{bs:List Box}{lo:Nat}{l':List α}{o:Cap}{K:AV->St->Prop}(a:l'.length<=4294967296)
  (h:∀k',l'.length<=k'->K (.bsl bs.length l'.length k') ⟨e,bs++[aJ f z k' l'],lo⟩):oe z ⟨e,bs,lo⟩ (.sl .full []) (.sl o (l'.map f)) K:=by
 refine⟨?_⟩;unfold oP;simp only[pY,se];refine⟨λy b=>by obtain⟨x,_,rfl⟩:=zk.1 b;exact hp.sz x,?_⟩
 rw[zF];refine⟨⟨hp.pos,by simp,by omega,λx c=>by simp at c⟩,λk' d=>?_⟩
 have:=h k' (by omega)
 simp only[aJ,fJ,ZI,List.take_nil,Zi] at this|-;exact this
theorem Jz{α:Type}(own:List α)(x y c:α):((own++[x])++[c]).set own.length y=(own++[y])++[c]:=by simp
theorem LN{α:Type}{f:α->AV}{z:Nat}(hp:Plain f z)(l:List α)(q n:Nat):(cellsOf (l.map f)++List.replicate q AV.top).all (λx=>x.lt n)=true:=zS.2 λx a=>(hp.JG l q n x a).2
theorem az(l:List Bool)(q n:Nat):(cellsOf (l.map AV.bool)++List.replicate q AV.top).all (λx=>x.lt n)=true:=LN JL l q n
theorem ao{n:Nat}{cs:List AV}{r:List Box}(h:cs.all (λx=>x.lt n)=true)(k:aj n r=true):aj n (.row cs::r)=true:=by simp only[aj,h,k,Bool.and_self]
end Go.AM
