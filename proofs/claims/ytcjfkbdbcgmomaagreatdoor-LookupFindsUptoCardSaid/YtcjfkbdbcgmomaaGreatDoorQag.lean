/-
  By an AI agent.
-/
import Derived.Test.YtcjfkbdbcgmomaaGreatDoorQaf
set_option linter.unusedSimpArgs false
set_option linter.unusedVariables false
namespace Go.AM
open Go.CK Go.RowKit
theorem OpS.ex{P:Program}{o:Oper}{s:St}{K:St->Prop}{ι:Type}(C:ι->Prop)(x:ι->AV)(e:ι->St)(f:∀c,o.op≠.defer c)(g:∀i,C i->K ((e i).put o.dst (x i)))
  (h:∀E G a w,RS E G s a w->∃i v G' w',C i/\(execOp a.eval o).run P w=.ok (.value v) w'/\RS E G' (e i) a w'/\RV G'.M G'.σ (e i).bs.length (x i) v):OpS P o s K:=by
 intro E G a w rd n next Q hs d b
 obtain⟨i,v,G',w',hC,l,k,j⟩:=h E G a w hs;refine⟨λ_ _=>trivial,?_⟩;rw[Oper.semAt_eq _ _ _ f,l];exact b _ G' _ w' (g i hC) (k.Nx d j) (put_defers _ _ _)
def cellsOf:List AV->List AV
 |[]=>[]
 |x::l=>x.cells++cellsOf l
theorem bC{z:Nat}:∀{l:List AV},(∀y∈l,y.cells.length=z)->(cellsOf l).length=l.length*z
 |[],_=>by simp[cellsOf]
 |x::l,h=>by
  rw[cellsOf,zC,h x (by simp),bC λy a=>h y (by simp[a]),zX,Nat.succ_mul,Nat.add_comm]
theorem jA{z:Nat}:∀{l:List AV},(∀y∈l,y.cells.length=z)->∀(i:Nat) (a:i<l.length) (j:Nat),j<z->(cellsOf l)[i*z+j]? =(l[i].cells)[j]?
 |[],_,i,a,_,_=>by cases a
 |x::l,h,0,_,j,c=>by
  have b:=h x (by simp)
  simp only[cellsOf,Nat.zero_mul,ZI,ZQ]
  rw[zK (by omega)]
 |x::l,h,i+1,a,j,c=>by
  have b:=h x (by simp)
  simp only[cellsOf,Zg];rw[zZ (by rw[b,Nat.succ_mul];omega),b,show (i+1)*z+j-z=i*z+j by rw[Nat.succ_mul];omega]
  exact jA (λy d=>h y (by simp[d])) i (by simpa using a) j c
theorem jf:∀(l m:List AV),cellsOf (l++m)=cellsOf l++cellsOf m
 |[],m=>rfl
 |x::l,m=>by rw[ze,cellsOf,cellsOf,jf l m,zg]
theorem eZ.at_{M:Hp}{z:Nat}{l:List AV}{us:List Value}(h:eZ M z l us)(j:Nat)(k:j<(cellsOf l).length)(u:Value)(hu:us[j]? =some u):FV M (cellsOf l)[j] u:=by
 have e:∀y∈l,y.cells.length=z:=λy g=>by
  obtain⟨i,b,rfl⟩:=ZZ.1 g;exact(h.2 i b).1
 have o:=bC e
 have a:0<z:=by
  rcases Nat.eq_zero_or_pos z with d|d
  .subst d;omega
  .exact d
 have b:j/z<l.length:=(Zr a).2 (by omega)
 have hr:=yT j a;have he:j/z*z+j %z=j:=by have:=yG j z;rw[yP] at this;exact this
 obtain⟨p,a2⟩:=h.2 _ b;obtain⟨n,f,_,m⟩:=a2 (j %z) (by omega)
 rw[he,hu] at f;cases f;have c:=jA e (j/z) b (j %z) hr;rw[he,zA k,zA (by omega)] at c
 simp only[zN] at c;rw[c];exact m
section
variable{E:Entry}{G:Gh}{s:St}{a:Act}{w:World}
theorem IH{w:World}{B:Nat}{o:Obj}(h:w.heap[B]? =some o)(hk:o.isCells=false)(i:Nat):w.cell? ⟨B,i,none⟩=none:=by
 simp only[World.cell?,h];cases o<;>first|rfl|cases hk
theorem RS.Je(h:RS E G s a w){B:Nat}{o:Obj}(o':Obj)(H:w.heap[B]? =some o)(hk:o.isCells=false)(hm:E.FP B\/E.w.heap.size<=B){bs':List Box}{A:List Deferred}(hlen:bs'.length=s.bs.length)(r:∀b,aa bs' b=aa s.bs b)
  (F:Sp E.FP E.w G.M G.σ G.cl bs' A E.dd (w.putObj B o')):RS E G ⟨s.env,bs',s.lo⟩ ⟨a.tmps,A⟩ (w.putObj B o'):=by
 have d:∀k,k≠B->(w.putObj B o').heap[k]? =w.heap[k]?:=λk hk=>World.putObj_heap_other hk;have q:(w.putObj B o').heap.size=w.heap.size:=World.putObj_size
 have y:∀p,(⟨s.env,bs',s.lo⟩:St).at p=s.at p:=λp=>by
  cases p with
  |sl t=>rfl
  |bx b j=>simp only[St.at,r]
 have g:∀B' vs T c,w.heap[B']? =some (.cells vs T c)->B'≠B:=λB' vs T c N e=>by
  subst e;rw[H] at N;cases N;cases hk
 have u:∀b cs,aa s.bs b=some cs->G.σ b≠B:=λb cs hb=>by
  obtain⟨vs,T,m,_⟩:=h.box b cs hb;exact g _ _ _ _ m
 have n:∀p x,s.at p=some x->aw G.σ ⟨a.tmps,A⟩ (w.putObj B o') p=aw G.σ a w p:=λp x hp=>by
  cases p with
  |sl t=>rfl
  |bx b j=>
   simp only[St.at] at hp
   cases hb:aa s.bs b with
   |none=>rw[hb] at hp;cases hp
   |some cs=>simp only[aw];rw[bN (d _ (u b cs hb))]
 refine⟨⟨h.fr.os,h.fr.tape,h.fr.output,by rw[q];exact h.fr.size,h.fr.le,λB' f L=>?_,h.fr.mem,h.fr.kn.keep (d _ (h.fr.kn.neO H hk))⟩,λb i v P=>?_,h.nt,λp x hp=>?_,λb j x hp=>?_,λb cs hb=>?_,λb cs hb=>?_,λb S cs K hb C e=>?_,λp z l hp=>?_,h.clinj,λp B' f b cs hb=>?_,λp B' f=>by rw[q];exact h.cllt p B' f,h.lo,by simp only[hlen];exact h.len,h.sig,F⟩
 .have:B'≠B:=λe=>by
   subst e;rcases hm with m|m
   .exact L m
   .omega
  rw[d B' this];exact h.fr.heap B' f L
 .have m:=h.ok b i v P
  have:b≠B:=λe=>by
   subst e;have:=IH H hk i;simp only[Hp.of] at m;rw[this] at m;cases m
  simp only[Hp.of] at m|-;rw[bN (d b this)];exact m
 .rw [y] at hp;rw[n p x hp,hlen];exact h.val p x hp
 .rw [y] at hp;rw[n _ x hp];exact h.one b j x hp
 .rw [r] at hb;obtain⟨vs,T,m,J⟩:=h.box b cs hb;exact⟨vs,T,by rw[d _ (u b cs hb)];exact m,J⟩
 .rw [r] at hb;exact h.bmem b cs hb
 .rw [r] at hb C;exact h.inj b S cs K hb C e
 .rw [y] at hp;obtain⟨U,k,m,J,I⟩:=h.own p z l hp;refine⟨U,k,by rw[n p _ hp];exact m,J,?_⟩
  rcases I with I|⟨B',f,R,D⟩
  .exact .inl I
  .obtain ⟨vs,T,O,Q⟩:=D.cells;exact .inr ⟨B',f,R,D.lt,⟨vs,T,by rw[d B' (g _ _ _ _ O)];exact O,Q⟩,D.free,D.mine⟩
 .rw [r] at hb;exact h.clbox p B' f b cs hb
end
theorem bw{bs:List Box}{b:Nat}(c:Nat):aa (bs.set b .dead) c=if c=b then none else aa bs c:=by
 simp only[aa,zq]
 by_cases e:b=c
 .subst e
  by_cases hb:b<bs.length
  .simp [hb,Box.cs?]
  .simp [hb]
 .rw [if_neg e,if_neg (λk=>e k.symm)]
theorem eK{bs:List Box}{b c:Nat}{x:LB}(h:ah (bs.set b .dead) c=some x):ah bs c=some x:=by
 by_cases e:b=c
 .subst e
  by_cases hb:b<bs.length
  .simp [ah,hb,Box.lb?] at h
  .simp [ah,hb] at h
 .simp only[ah,zq,if_neg e] at h;exact h
def rowAt(bs:List Box)(b:Nat):Option (List AV):=match bs[b]? with
 |some (.row cs)=>some cs
 |some (.cells cs)=>some cs
 |_=>none
theorem db{bs:List Box}{b:Nat}{cs:List AV}(h:rowAt bs b=some cs)(a:cs≠[]):aa bs b=some cs:=by
 unfold rowAt at h;unfold aa;split at h
 .rename_i ds e;cases h;rw[e];simp[dT,a]
 .rename_i ds e;cases h;rw[e];rfl
 .cases h
section
variable{E:Entry}{G:Gh}{s:St}{a:Act}{w:World}
theorem RS.reb(h:RS E G s a w){bs':List Box}{σ':Nat->Nat}(f:Nat->Nat)(hlen:s.bs.length<=bs'.length)(D:∀b,b<s.bs.length->σ' b=G.σ b)(L:∀b x,ah bs' b=some x->ah s.bs b=some x)
  (hb:∀b c,aa bs' b=some c->∃cs,aa s.bs (f b)=some cs/\σ' b=G.σ (f b)/\c.length<=cs.length/\∀(j:Nat) (x:AV),c[j]? =some x->x=.top\/(cs[j]? =some x/\(f b=b\/x.aI=x)))
  (N:∀b v cs c,aa bs' b=some cs->aa bs' v=some c->f b=f v->b=v):RS E {G with σ:=σ'} ⟨s.env,bs',s.lo⟩ a w:=by
 have r:∀b j x,(⟨s.env,bs',s.lo⟩:St).at (.bx b j)=some x->∃y,s.at (.bx (f b) j)=some y/\σ' b=G.σ (f b)/\(x=.top\/(y=x/\(f b=b\/x.aI=x))):=λb j x m=>by
  simp only[St.at] at m
  cases q:aa bs' b with
  |none=>rw[q] at m;cases m
  |some c=>
   rw[q] at m;simp only[ZG] at m;obtain⟨cs,d,g,u,F⟩:=hb b c q;have K:j<cs.length:=ZT (zB.1 m).1 u;refine⟨cs[j],by simp only[St.at,d,ZG];exact zA K,g,?_⟩
   rcases F j x m with e|⟨e,O⟩
   .exact .inl e
   .refine .inr ⟨?_,O⟩;rw[zA K] at e;exact yJ e
 have n:∀b j,σ' b=G.σ (f b)->aw σ' a w (.bx b j)=aw G.σ a w (.bx (f b) j):=λb j e=>by simp only[aw,e]
 refine⟨h.fr,h.ok,h.nt,λp x hp=>?_,λb j x hp=>?_,λb c i=>?_,λb c i=>?_,λb v cs c i A e=>?_,λp z l hp=>?_,h.clinj,λp B hB b c i=>?_,h.cllt,h.lo,ZN h.len hlen,λb C=>(D b (ZT C h.len)).trans (h.sig b C),h.sp.step (Hp.le_refl _) D L (λ_ _ k _=>k) (λ_ _ _ _ p k=>⟨p,k⟩) (λ_ k=>k)⟩
 .cases p with
  |sl t=>exact(h.val (.sl t) x hp).mono (Hp.le_refl _) hlen D
  |bx b j=>
   obtain⟨y,d,g,u⟩:=r b j x hp;show RV G.M σ' _ _ (aw σ' a w (.bx b j));rw[n b j g];rcases u with rfl|⟨rfl,_⟩
   .exact .flat (.top _)
   .exact (h.val _ _ d).mono (Hp.le_refl _) hlen D
 .obtain ⟨y,d,g,_⟩:=r b j x hp;show (aw σ' a w (.bx b j)).oneCell'=true;rw[n b j g];exact h.one _ _ _ d
 .obtain ⟨cs,d,g,u,_⟩:=hb b c i;obtain⟨vs,T,F,P⟩:=h.box _ cs d;exact⟨vs,T,by show w.heap[σ' b]? =_;rw[g];exact F,by omega⟩
 .obtain ⟨cs,d,g,u,_⟩:=hb b c i;show (∀o,G.M (σ' b) o=none)/\(E.FP (σ' b)\/E.w.heap.size<=σ' b);rw[g];exact h.bmem _ cs d
 .obtain ⟨ds,d,g,_⟩:=hb b cs i;obtain⟨J,I,H,_⟩:=hb v c A;have e:σ' b=σ' v:=e;rw[g,H] at e;exact N b v cs c i A (h.inj _ _ ds J d I e)
 .cases p with
  |sl t=>exact h.own (.sl t) z l hp
  |bx b j=>
   obtain⟨y,d,g,u⟩:=r b j _ hp;rcases u with e|⟨rfl,e|e⟩
   .cases e
   .show∃Q k,aw σ' a w (.bx b j)=_/\_;rw[n b j g,e];rw[e] at d;exact h.own _ z l d
   .simp [AV.aI] at e
 .obtain ⟨cs,d,g,_⟩:=hb b c i;show σ' b≠B;rw[g];exact h.clbox p B hB _ cs d
end
def se(z:Nat)(bs:List Box)(y:AV)(K:Nat->List AV->Prop):Prop:=
 match y with
 |.sl _ xs=>(∀y∈xs,y.cells.length=z)/\K xs.length (cellsOf xs)
 |.bsl b m _=>match rowAt bs b with
  |some cs=>(m*z<=cs.length/\∀x∈cs.take (m*z),x.aI=x)/\K m (cs.take (m*z))
  |none=>False
 |_=>False
def pY(bs:List Box)(x:AV)(K:Nat->Nat->List AV->Option Nat->Prop):Prop:=
 match x with
 |.sl .full []=>K 0 0 [] none
 |.bsl b m k=>match rowAt bs b with
  |some cs=>K m k cs (some b)
  |none=>False
 |_=>False
def fJ(bs:List Box):Option Nat->List Box
 |none=>bs
 |some b=>bs.set b .dead
def oP(z:Nat)(s:St)(x y:AV)(K:AV->St->Prop):Prop:=
 pY s.bs x λm k cs ob=>se z s.bs y λn ys=>(0<z/\k*z<=cs.length/\m+n<=4294967296/\∀x∈cs.take (m*z),x.aI=x)/\
  ∀k',m+n<=k'->K (.bsl s.bs.length (m+n) k') ⟨s.env,fJ s.bs ob++[.row (cs.take (m*z)++(ys++List.replicate ((k'-(m+n))*z) .top))],s.lo⟩
theorem GZ{z:Nat}{bs:List Box}{y:AV}{K:Nat->List AV->Prop}(h:se z bs y K):∃n ys,se z bs y (λn' a=>n'=n/\a=ys)/\K n ys:=by
 unfold se at h|-;split at h
 .exact ⟨_,_,⟨h.1,rfl,rfl⟩,h.2⟩
 .rename_i b m k;split at h
  .rename_i cs e;exact⟨m,cs.take (m*z),⟨h.1,rfl,rfl⟩,h.2⟩
  .exact h.elim
 .exact h.elim
theorem Gp{bs:List Box}{x:AV}{K:Nat->Nat->List AV->Option Nat->Prop}(h:pY bs x K):∃m k cs ob,pY bs x (λd k' c a=>d=m/\k'=k/\c=cs/\a=ob)/\K m k cs ob:=by
 unfold pY at h|-;split at h
 .exact ⟨_,_,_,_,⟨rfl,rfl,rfl,rfl⟩,h⟩
 .rename_i b m k;split at h
  .rename_i cs e;exact⟨m,k,cs,some b,⟨rfl,rfl,rfl,rfl⟩,h⟩
  .exact h.elim
 .exact h.elim
section
variable{E:Entry}{G:Gh}{s:St}{a:Act}{w:World}{P:Program}
theorem RS.els(hs:RS E G s a w){y:AV}{v:Value}(J:RV G.M G.σ s.bs.length y v){z n:Nat}{ys:List AV}(h:se z s.bs y (λn' A=>n'=n/\A=ys)):
  ys.length=n*z/\∃(F:Option Addr) (c B off:Nat) (us:List Value),v=.slice F n c/\us.length=n*z/\(∀u∈us,u.oneCell'=true)/\(∀j (f:j<ys.length) u,us[j]? =some u->RV G.M G.σ s.bs.length ys[j] u)/\(n≠0->F=some ⟨B,off,none⟩)/\∀j u,us[j]? =some u->w.cell? ⟨B,off+j,none⟩=some u:=by
 unfold se at h;split at h
 .rename_i S xs;obtain⟨I,rfl,rfl⟩:=h;obtain⟨x,k,B,off,g⟩:=J.sv I;obtain⟨us,H,L,K⟩:=g.row hs.ok;exact⟨bC I,x,k,B,off,us,g.eq,H.1,L,λj f u hu=>.flat (H.at_ j f u hu),λt=>g.at_ (λe=>t (by simp[e])),K⟩
 .rename_i b m k;split at h
  .rename_i cs e;obtain⟨⟨r,R⟩,rfl,rfl⟩:=h;obtain⟨x,l,hb,Q,P,o⟩:=J.cj;have hlen:(cs.take (m*z)).length=m*z:=by simp[r]
   by_cases t:cs=[]
   .subst t;simp only[ZP,Nat.le_zero] at r;exact⟨by simp[r],x,k,G.σ b,0,[],l,by simp[r],by simp,λj f=>by simp at f,λO=>o (by omega),by simp⟩
   .have i:=db e t;obtain⟨vs,T,c1,c2⟩:=hs.box b cs i
    have d:∀j u,((vs.toList.take (m*z))[j]? =some u)->j<m*z/\w.cell? ⟨G.σ b,j,none⟩=some u:=λj u hu=>by
     have f:j<m*z:=by
      rcases zt j (m*z) with q|q
      .exact q
      .rw [Za,if_neg (by omega)] at hu;cases hu
     rw[Za,if_pos f] at hu;refine⟨f,?_⟩;simp only[World.cell?,c1];simpa using hu
    refine⟨hlen,x,k,G.σ b,0,vs.toList.take (m*z),l,by simp;omega,λu hu=>?_,λj f u hu=>?_,λO=>o (by omega),λj u hu=>by rw[ZI];exact(d j u hu).2⟩
    .obtain ⟨j,f,rfl⟩:=ZZ.1 hu;obtain⟨q,D⟩:=d j _ (zA f);obtain⟨N,p,C,_⟩:=hs.wq i j (by omega)
     rw[D] at p;cases p;exact C
    .obtain ⟨q,D⟩:=d j _ hu;obtain⟨N,p,_,C⟩:=hs.wq i j (by omega)
     rw[D] at p;cases p;rw[Zp]
     have:=R cs[j] (by
      rw[ZZ];exact⟨j,by rw[hlen];exact q,by rw[Zp]⟩)
     rw[<-this];exact C
  .exact h.elim
 .exact h.elim
theorem xk{bs:List Box}(ob:Option Nat)(c:Nat):aa (fJ bs ob) c=if ob=some c then none else aa bs c:=by
 cases ob with
 |none=>simp[fJ]
 |some b=>
  simp only[fJ,bw,zN]
  by_cases e:c=b
  .rw [if_pos e,if_pos e.symm]
  .rw [if_neg e,if_neg (λx=>e x.symm)]
theorem fg(bs:List Box)(ob:Option Nat):(fJ bs ob).length=bs.length:=by cases ob<;>simp[fJ]
theorem xj{bs:List Box}{ob:Option Nat}{c:Nat}{x:LB}(h:ah (fJ bs ob) c=some x):ah bs c=some x:=by
 cases ob with
 |none=>exact h
 |some b=>exact eK h
theorem sr(hs:RS E G s a w){e z:Nat}{zv:Value}{zx:AV}(hzs:zv.cells.size=z)(hzx:cO zv=some zx)(hok:ba zx=true){x:AV}{v:Value}(hv:RV G.M G.σ s.bs.length x v)
  {m k n:Nat} {cs ys:List AV} {ob:Option Nat} (d:pY s.bs x (λm' k' g ob'=>m'=m/\k'=k/\g=cs/\ob'=ob)) (hz:0<z) (hkz:k*z<=cs.length) (D:m+n<=lim) (hde:∀x∈cs.take (m*z),x.aI=x)
  {us:List Value} (i:ys.length=n*z) (V:us.length=n*z) (u2:∀u∈us,u.oneCell'=true) (u3:∀j (H:j<ys.length) u,us[j]? =some u->RV G.M G.σ s.bs.length ys[j] u) {X:Sem (Array Value)} (hX:X.run P w=.ok us.toArray w) (hX':X.run P w.drew=.ok us.toArray w.drew) {run:Result Value}
  (hun:∀t,v=.slice t m k->run=if m+n<=k then (X.run P w).andThen λnew w1=>
     ((match t with|some a=>storeCells (a.add (m*z)) new.toList|none=>Pure.pure ():Sem Unit).run P w1).andThen λ_ w2=>.ok (.slice t (m+n) k) w2
   else ((Builtin.firstCells z m (.slice t m k)).run P w.drew).andThen λold w1=>(X.run P w1).andThen λnew w2=>
    .ok (.slice (some ⟨w2.heap.size,0,none⟩) (m+n) (grownCap w (m+n) k e)) (w2.alloc (.cells (old++new++Builtin.zeroCells zv.cells (grownCap w (m+n) k e-(m+n))) e))):
  ∃k' v' G' w',m+n<=k'/\run=.ok v' w'/\RS E G' ⟨s.env,fJ s.bs ob++[.row (cs.take (m*z)++(ys++List.replicate ((k'-(m+n))*z) .top))],s.lo⟩ a w'/\RV G'.M G'.σ (s.bs.length+1) (.bsl s.bs.length (m+n) k') v':=by
 have C:∃t,v=.slice t m k/\m<=k/\(k≠0->∃b,ob=some b/\t=some ⟨G.σ b,0,none⟩/\aa s.bs b=some cs):=by
  unfold pY at d;split at d
  .obtain ⟨rfl,rfl,rfl,rfl⟩:=d;obtain⟨t,kk,B,off,sz,r,_,_,_,U,_⟩:=hv.cX;have:=U rfl;subst this;exact⟨t,r,zG _,λh=>absurd rfl h⟩
  .split at d
   .rename_i b m' k' _ g hr;obtain⟨rfl,rfl,rfl,rfl⟩:=d;obtain⟨t,r,U,F,h4,Q⟩:=hv.cj;refine⟨t,r,F,λL=>⟨b,rfl,Q L,db hr (λe=>?_)⟩⟩;subst e;have:0<k'*z:=Nat.mul_pos (by omega) hz
    simp only[ZP] at hkz;omega
   .exact d.elim
  .exact d.elim
 obtain⟨t,rfl,hmk,C⟩:=C;have Y:m*z<=cs.length:=ZN (ZE _ hmk) hkz;rw[hun t rfl];have hblt:∀b cs,aa s.bs b=some cs->b<s.bs.length:=λb cs h=>aC h
 have l:∀c ds A,aa (fJ s.bs ob++[.row A]) c=some ds->(c=s.bs.length/\ds=A/\A≠[])\/(c<s.bs.length/\ob≠some c/\aa s.bs c=some ds):=λc ds A h=>by
  rw[aq,fg] at h
  by_cases ec:c=s.bs.length
  .rw [if_pos ec,dT] at h;split at h
   .cases h
   .rename_i L;cases h;exact .inl ⟨ec,rfl,L⟩
  .rw [if_neg ec,xk] at h;split at h
   .cases h
   .rename_i L;exact .inr ⟨hblt _ _ h,L,h⟩
 have y:∀(A:List AV) b x,ah (fJ s.bs ob++[.row A]) b=some x->ah s.bs b=some x:=λA b x h=>xj (cu rfl h)
 by_cases p:m+n<=k
 .rw [if_pos p,hX];simp only[yV]
  by_cases hk0:k=0
  .subst hk0;obtain rfl:m=0:=by omega
   obtain rfl:n=0:=by omega
   have hus:us=[]:=zL (by simpa using V)
   have W:ys=[]:=zL (by simpa using i)
   subst hus W;refine⟨0,.slice t 0 0,{G with σ:=G.σ},w,zG _,?_,?_,?_⟩
   .cases t<;>simp[storeCells]
   .refine hs.reb id (by simp[fg]) (λ_ _=>rfl) (y _) (λb g K=>?_) (λb b' _ _ _ _ e=>e)
    rcases l b g _ K with ⟨_,_,L⟩|⟨r,_,F⟩
    .simp at L
    .exact ⟨g,F,rfl,zG _,λj x d=>.inr ⟨d,.inl rfl⟩⟩
   .exact .bsl _ _ _ _ (by omega) (zG _) (by unfold lim;omega) (λh=>absurd rfl h)
  .obtain ⟨b,N,S,f⟩:=C hk0;subst S;have hmn:m*z+n*z<=k*z:=by rw[<-ZL];exact ZE _ p
   obtain⟨w',Q,h6⟩:=c9 (P:=P) us ys s w b (m*z) 0 cs hs f (by rw[i];omega) (by rw[V,i]) u2 u3
   have R:(setAt cs (m*z+0) ys).length=cs.length:=bn _ _ _;refine⟨k,.slice (some ⟨G.σ b,0,none⟩) (m+n) k,{G with σ:=λc=>if c=s.bs.length then G.σ b else G.σ c},w',p,?_,?_,?_⟩
   .simp only;rw[bS,ZI,Q];rfl
   .refine h6.reb (λc=>if c=s.bs.length then b else c) (by simp[St.aU,fg]) (λc K=>?_) (λc x K=>?_) (λc g K=>?_) (λc c' ds ds' K hc' e=>?_)
    .simp only[St.aU,zm] at K;rw[if_neg (by omega)]
    .have:=y _ c x K;simp only[St.aU];simp only[ah,zq]
     by_cases eb:b=c
     .subst eb;simp only[ah] at this;simp only[aa] at f
      cases hq:s.bs[b]? with
      |none=>rw[hq] at f;cases f
      |some q=>
       rw[hq] at this f;cases q<;>first|(cases f;done)|(cases this;done)
     .rw [if_neg eb];exact this
    .rcases l c g _ K with ⟨rfl,rfl,L⟩|⟨r,U,F⟩
     .simp only[if_true];refine⟨setAt cs (m*z+0) ys,by simp only[St.aU];rw[a7 f,if_pos rfl],trivial,?_,λj x d=>?_⟩
      .rw [R];simp only[zC,zn,zf,i,Nat.sub_mul,ZL];omega
      .have hjlt:j<cs.length:=by
        have:=(zB.1 d).1;simp only[zC,zn,zf,i,Nat.sub_mul,ZL] at this;omega
       rw[dZ];simp only[Zf]
       by_cases I:j<m*z
       .rw [if_neg (by omega)]
        rw[zK (by simp;omega)] at d
        refine .inr ⟨?_,.inr (hde x (zE d))⟩;rw[Za,if_pos I] at d;exact d
       .rw [zZ (by simp;omega)] at d
        simp only[zn,yH Y] at d
        by_cases o:j-m*z<ys.length
        .rw [zK o] at d;rw[if_pos (by omega)]
         have hx2:ys[j-m*z]'o=x:=by
          rw[zA o] at d;exact yJ d
         refine .inr ⟨d,.inr ?_⟩;have:=(u3 (j-m*z) o _ (zA (by rw[V,<-i];exact o))).cr
         rw[hx2] at this;exact this
        .rw [zZ (by omega)] at d
         refine .inl ?_;exact(ZY.1 (zE d)).2
     .have hcb:c≠b:=λe=>U (by rw[N,e])
      simp only[show c≠s.bs.length by omega,if_false]
      refine⟨g,by simp only[St.aU];rw[a7 f,if_neg hcb];exact F,trivial,zG _,λj x d=>.inr ⟨d,.inl trivial⟩⟩
    .rcases l c ds _ K with ⟨rfl,_,_⟩|⟨r,U,F⟩<;>rcases l c' ds' _ hc' with ⟨rfl,_,_⟩|⟨h1',h2',h3'⟩
     .rfl
     .rw [if_pos rfl,if_neg (by omega)] at e
      exact absurd (by rw[N,e]) h2'
     .rw [if_pos rfl,if_neg (by omega)] at e
      exact absurd (by rw[N,e]) U
     .rw [if_neg (by omega),if_neg (by omega)] at e
      exact e
   .have:=RV.bsl (M:=G.M) (σ:=λc=>if c=s.bs.length then G.σ b else G.σ c) (n:=s.bs.length+1) s.bs.length (m+n) k (some ⟨G.σ b,0,none⟩) (by omega) p (by unfold lim at D|-;exact D) (λ_=>by simp)
    exact this
 .rw [if_neg p];have hg:=grownCap_ge w (m+n) k e
  generalize hgc:grownCap w (m+n) k e=k' at*
  --the old cells
  have hold:∃os:List Value,os.length=m*z/\(∀u∈os,u.oneCell'=true)/\(∀(j:Nat) (H:j<(cs.take (m*z)).length) u,os[j]? =some u->RV G.M G.σ s.bs.length (cs.take (m*z))[j] u)/\(Builtin.firstCells z m (.slice t m k)).run P w.drew=.ok os.toArray w.drew:=by
   by_cases hm0:m=0
   .subst hm0;refine⟨[],by simp,by simp,λj H=>by simp at H,?_⟩
    exact bB (P:=P) (B:=0) (off:=0) w.drew (by simp) (λh=>absurd rfl h) (by simp)
   .obtain ⟨b,N,S,f⟩:=C (by omega)
    obtain⟨vs,T,c1,c2⟩:=hs.box b cs f
    have J:∀(j:Nat) u,((vs.toList.take (m*z))[j]? =some u)->j<m*z/\w.cell? ⟨G.σ b,j,none⟩=some u:=λj u hu=>by
     have H:j<m*z:=by
      rcases zt j (m*z) with F|F
      .exact F
      .rw [Za,if_neg (by omega)] at hu;cases hu
     rw[Za,if_pos H] at hu;refine⟨H,?_⟩;simp only[World.cell?,c1];simpa using hu
    refine⟨vs.toList.take (m*z),by simp;omega,λu hu=>?_,λj H u hu=>?_,?_⟩
    .obtain ⟨j,H,rfl⟩:=ZZ.1 hu;obtain⟨F,h4⟩:=J j _ (zA H);obtain⟨u',Q,h6,_⟩:=hs.wq f j (by omega)
     rw[h4] at Q;cases Q;exact h6
    .obtain ⟨F,h4⟩:=J j _ hu;obtain⟨u',Q,_,h6⟩:=hs.wq f j (by omega)
     rw[h4] at Q;cases Q;have:=hde _ (zc H);rw[Zp] at this|-;rw[<-this];exact h6
    .refine bB (P:=P) (B:=G.σ b) (off:=0) w.drew (by simp;omega) (λ_=>S) λj u hu=>?_
     rw[ZI];exact(J j u hu).2
  obtain⟨os,o1,o2,o3,o4⟩:=hold;rw[o4];simp only[yV];rw[hX'];simp only[yV];have hd:RS E G s a w.drew:=hs.drew;obtain⟨z1,z2,_⟩:=(RV.flat (σ:=λ_=>0) (n:=0) (ib (M:=G.M) hzx)).cells hok;have hzl:(Builtin.zeroCells zv.cells (k'-(m+n))).toList.length=(k'-(m+n))*z:=by rw[ZJ,size_zeroCells,hzs]
  have h7:=hd.om (.row (cs.take (m*z)++(ys++List.replicate ((k'-(m+n))*z) .top))) (cs.take (m*z)++(ys++List.replicate ((k'-(m+n))*z) .top)) rfl (λds e=>by
   rw[dT] at e;split at e
   .cases e
   .cases e;rfl) (os++(us++(Builtin.zeroCells zv.cells (k'-(m+n))).toList)) e (by
    simp only[zC,zn,zf,o1,V,i,hzl];omega) (λu hu=>by
    rcases zY.1 hu with r|r
    .exact o2 u r
    .rcases zY.1 r with r|r
     .exact u2 u r
     .simp only[Builtin.zeroCells,Array.toList_map,zk] at r;obtain⟨j,H,rfl⟩:=r;have hp:0<zv.cells.size:=by omega
      have Z:j %zv.cells.size<zv.cells.size:=yT _ hp;have hm:=z2 (zv.cells[j %zv.cells.size]'Z) (by simp)
      rw[getElem!_pos zv.cells _ Z];exact hm) (λj H u hu=>by
    by_cases I:j<(cs.take (m*z)).length
    .rw [zK (by rw[o1];simp at I;omega)] at hu
     rw[ZH I];exact o3 j I u hu
    .have hlo:os.length=(cs.take (m*z)).length:=by rw[o1];simp[Y]
     rw[zZ (by omega)] at hu
     rw[ZW (by omega)]
     by_cases o:j-(cs.take (m*z)).length<ys.length
     .rw [ZH o];rw[zK (by rw[V,<-i];omega)] at hu
      exact u3 _ o u (by rw[<-hlo];exact hu)
     .rw [ZW (by omega),Zt]
      exact .flat (.top _))
  refine⟨k',_,_,_,hg,rfl,(?_:RS E {G with σ:=λb=>if b=s.bs.length then w.drew.heap.size else G.σ b} _ a _),?_⟩
  .have h8:=h7.reb (bs':=fJ s.bs ob++[.row (cs.take (m*z)++(ys++List.replicate ((k'-(m+n))*z) .top))]) (σ':=λb=>if b=s.bs.length then w.drew.heap.size else G.σ b) id (by simp[fg]) (λ_ _=>rfl) (λb x hb=>by
    have:=y _ b x hb;simp only[ah];rw[zK (aO this)]
    exact this) (λb g K=>⟨g,by
     rcases l b g _ K with ⟨rfl,rfl,L⟩|⟨r,_,F⟩
     .simp only[id];rw[aq,if_pos rfl,dT,if_neg L]
     .simp only[id];rw[aq,if_neg (by omega)];exact F,rfl,zG _,λj x d=>.inr ⟨d,.inl rfl⟩⟩) (λb b' _ _ _ _ e=>e)
   have O:(os.toArray++us.toArray++Builtin.zeroCells zv.cells (k'-(m+n)))=(os++(us++(Builtin.zeroCells zv.cells (k'-(m+n))).toList)).toArray:=by
    apply Array.ext';simp
   rw[O];exact h8
  .have:=RV.bsl (M:=G.M) (σ:=λb=>if b=s.bs.length then w.drew.heap.size else G.σ b) (n:=s.bs.length+1) s.bs.length (m+n) k' (some ⟨w.drew.heap.size,0,none⟩) (by omega) hg (by unfold lim at D|-;exact D) (λ_=>by simp)
   exact this
theorem FY{s:St}{o:Oper}{x y:Operand}{t e z:Nat}(I:o.op=.call {callee:=.builtin .append,args:=#[x,y],argTypes:=#[t,t]})(Z:P.underlying t=some (.slice e)){i:TypeInfo}{zv:Value}(hi:P.info? e=some i)(f:i.zero=some zv)(p:i.size=z)(g:zv.cells.size=z)(hb:i.bytes<=4096){A:AV}(d:cO zv=some A)(q:ba A=true)
  {rx F:Opd} (W:opd x=some rx) (V:opd y=some F) {K:St->Prop} (h:oP z s (s.ev rx) (s.ev F) λr O=>K (O.put o.dst r)):OpS P o s K:=by
 have hd:∀c,o.op≠.defer c:=λc e=>by rw[I] at e;cases e
 obtain⟨m,k,cs,ob,h1,h⟩:=Gp h;obtain⟨n,ys,h2,⟨U,u,J,v⟩,hK⟩:=GZ h;refine OpS.ex (ι:=Nat) (λk'=>m+n<=k') (λk'=>.bsl s.bs.length (m+n) k') (λk'=>⟨s.env,fJ s.bs ob++[.row (cs.take (m*z)++(ys++List.replicate ((k'-(m+n))*z) .top))],s.lo⟩) hd hK λE G a w hs=>?_;obtain⟨j,B,c,Bx,H,us,l,b,N,M,D,C⟩:=hs.els (hs.ev V) h2
 obtain⟨k',v',G',w',T,S,R,Q⟩:=sr (P:=P) (e:=e) (X:=Builtin.firstCells z n (.slice B n c)) (run:=(Builtin.append_ #[t,t] o.type #[a.eval x,a.eval y]).run P w) hs g d q (hs.ev W) h1 U u (by unfold lim;omega) v j b N M (bB w b D C) (bB w.drew b D (by simpa using C))
  (λL Y=>by rw[Y,l,kF (P:=P) Z hi f p rfl o.type L m k B n c w (by unfold lim;omega) hb];cases L<;>rfl)
 refine⟨k',v',G',w',T,?_,R,by simpa[fg] using Q⟩
 rw[kC P _ o I (.inl rfl)];simp only[S,yV]
theorem DV{t u e sz bytes:Nat}{B:IntKind}{i:TypeInfo}{z:Value}(q:P.underlying t=some (.slice e))(hu:P.underlying u=some (.int B))(r:P.info? e=some i)(x:i.zero=some z)(y:i.size=sz)(v:z.cells.size=sz)(A:i.bytes=bytes)
  (ty:TypeId) (l:Option Addr) (n k m:Nat) (ki:IntKind) (w:World) (hle:n+m<=lim) (hb:bytes<=4096):
  (Builtin.append_ #[t,u] ty #[.slice l n k,.int ki m]).run P w=
   if n+m<=k then ((Pure.pure (Builtin.zeroCells z.cells m):Sem (Array Value)).run P w).andThen λnew s=>
     ((match l with|some a=>storeCells (a.add (n*sz)) new.toList|none=>Pure.pure ():Sem Unit).run P s).andThen λ_ p=>.ok (.slice l (n+m) k) p
   else ((Builtin.firstCells sz n (.slice l n k)).run P w.drew).andThen λold s=>((Pure.pure (Builtin.zeroCells z.cells m):Sem (Array Value)).run P s).andThen λnew p=>
    .ok (.slice (some ⟨p.heap.size,0,none⟩) (n+m) (grownCap w (n+m) k e)) (p.alloc (.cells (old++new++Builtin.zeroCells z.cells (grownCap w (n+m) k e-(n+m))) e)):=by
 subst y A;have c:IntKind.i64.wrap (m:Int)=m:=wrap_i64 (by omega) (by unfold lim at hle;omega)
 have d:¬(281474976710656<(m:Int)*(i.bytes:Int)):=by
  have D:(i.bytes:Int)<=4096:=by omega
  have C:(m:Int)<=4294967296:=by unfold lim at hle;omega
  have:(m:Int)*(i.bytes:Int)<=4294967296*4096:=Int.mul_le_mul C D (by omega) (by omega)
  omega
 have o:m*i.size=0->Builtin.zeroCells z.cells m=#[]:=λj=>by
  apply Array.eq_empty_of_size_eq_zero;rw[size_zeroCells,v,j]
 have b:¬(m:Int)<0:=by omega
 by_cases h:n+m<=k
 .rw [if_pos h]
  by_cases j:m*i.size=0
  .cases l<;>simp[Builtin.append_,run_underlying q,run_underlying hu,sizeOf,typeInfo,r,asInt,asIntOf,c,d,b,h,j,o j]
  .cases l<;>simp[Builtin.append_,run_underlying q,run_underlying hu,sizeOf,typeInfo,r,asInt,asIntOf,c,d,b,h,j,zeroValue,x]
 .rw [if_neg h];have f:¬(9223372036854775807<((n:Int)+(m:Int))):=by unfold lim at hle;omega
  have g:¬(281474976710656<Builtin.nextslicecap (n+m) k*i.bytes):=by
   have E:=Nat.mul_le_mul hle hb;have:=growslice_fits (need:=n+m) (old:=k) (bytes:=i.bytes) (by omega) (by unfold lim at E;omega)
   omega
  by_cases j:m*i.size=0
  .simp [Builtin.append_,run_underlying q,run_underlying hu,sizeOf,typeInfo,r,asInt,asIntOf,c,d,b,zeroValue,x,h,f,g,Question.forced,newRow,grownCap,o j]
  .simp [Builtin.append_,run_underlying q,run_underlying hu,sizeOf,typeInfo,r,asInt,asIntOf,c,d,b,zeroValue,x,h,f,g,Question.forced,newRow,grownCap,j]
theorem yx{M:Hp}{σ:Nat->Nat}{nb:Nat}{x:AV}{v:Value}(m:cO v=some x)(d:ba x=true)(a:x.flat=true){z:Nat}(e:v.cells.size=z)(n:Nat):
  (cellsOf (List.replicate n x)).length=n*z/\(Builtin.zeroCells v.cells n).toList.length=n*z/\(∀u∈(Builtin.zeroCells v.cells n).toList,u.oneCell'=true)/\
   ∀j (b:j<(cellsOf (List.replicate n x)).length) u,(Builtin.zeroCells v.cells n).toList[j]? =some u->RV M σ nb (cellsOf (List.replicate n x))[j] u:=by
 obtain⟨us,k,t⟩:=fT (M:=M) m d a e n n (zG _);have o:(Builtin.zeroCells v.cells n).toList.length=n*z:=by rw[ZJ,size_zeroCells,e]
 have g:us.length=n*z:=by rw[k.1];simp
 have he:us=(Builtin.zeroCells v.cells n).toList:=by
  apply List.ext_getElem (by rw[g,o])
  intro j b i;have:=t j us[j] (zA b);rw[<-e] at this;have p:(Builtin.zeroCells v.cells n)[j]? =some us[j]:=this;rw[zi (by rwa [ZJ] at i)] at p
  simpa using(yJ p).symm
 obtain⟨c1,_,_⟩:=(RV.flat (σ:=σ) (n:=nb) (ib (M:=M) m)).cells d
 have f:∀y∈List.replicate n x,y.cells.length=z:=λy r=>by
  rw[(ZY.1 r).2,<-c1,ZJ,e]
 refine⟨by rw[bC f];simp,o,λu hu=>?_,λj b u hu=>.flat (k.at_ j b u (by rw[he];exact hu))⟩
 rw[<-he] at hu;obtain⟨j,b,rfl⟩:=ZZ.1 hu
 have c:0<z:=by
  rcases Nat.eq_zero_or_pos z with l|l
  .subst l;omega
  .exact l
 have s:j/z<(List.replicate n x).length:=by simp;exact(Zr c).2 (by omega)
 obtain⟨A,a2⟩:=k.2 _ s;obtain⟨B,q,w,_⟩:=a2 (j %z) (by rw[A];exact yT _ c)
 have h:j/z*z+j %z=j:=by have:=yG j z;rw[yP] at this;exact this
 rw[h,zA b] at q;cases q;exact w
def sq(z:Nat)(s:St)(x y:AV)(K:AV->St->Prop):Prop:=
 match y with
 |.int _ q=>pY s.bs x λm k cs ob=>(0<z/\k*z<=cs.length/\(0<=q/\m+q.toNat<=4294967296)/\∀x∈cs.take (m*z),x.aI=x)/\
  ∀k',m+q.toNat<=k'->K (.bsl s.bs.length (m+q.toNat) k') ⟨s.env,fJ s.bs ob++[.row (cs.take (m*z)++List.replicate ((k'-m)*z) .top)],s.lo⟩
 |_=>False
theorem FX{s:St}{o:Oper}{x y:Operand}{t u e z:Nat}{U:IntKind}(J:o.op=.call {callee:=.builtin .append,args:=#[x,y],argTypes:=#[t,u]})(ht:P.underlying t=some (.slice e))(hu:P.underlying u=some (.int U)){i:TypeInfo}{zv:Value}(hi:P.info? e=some i)(A:i.zero=some zv)(C:i.size=z)(d:zv.cells.size=z)(hb:i.bytes<=4096){v:AV}(g:cO zv=some v)(l:ba v=true)(f:v.flat=true)
  {rx H:Opd} (Y:opd x=some rx) (W:opd y=some H) {K:St->Prop} (h:sq z s (s.ev rx) (s.ev H) λr Q=>K (Q.put o.dst r)):OpS P o s K:=by
 have hd:∀c,o.op≠.defer c:=λc e=>by rw[J] at e;cases e
 unfold sq at h;split at h
 .rename_i ki q B;obtain⟨m,k,cs,ob,h1,⟨V,D,⟨hq,p⟩,F⟩,L⟩:=Gp h;obtain⟨n,rfl⟩:∃n:Nat,q=n:=⟨q.toNat,by omega⟩
  simp only[Zn] at p L;refine OpS.ex (ι:=Nat) (λk'=>m+n<=k') (λk'=>.bsl s.bs.length (m+n) k') (λk'=>⟨s.env,fJ s.bs ob++[.row (cs.take (m*z)++List.replicate ((k'-m)*z) .top)],s.lo⟩) hd L λE G a w hs=>?_;have b:=hs.ev W;rw[B] at b;have b:=b.aK;obtain⟨_,O,N,_⟩:=yx (M:=G.M) (σ:=G.σ) (nb:=s.bs.length) g l f d n
  obtain⟨k',v',G',w',T,S,I,R⟩:=sr (P:=P) (e:=e) (X:=Pure.pure (Builtin.zeroCells zv.cells n)) (run:=(Builtin.append_ #[t,u] o.type #[a.eval x,a.eval y]).run P w) hs d g l (hs.ev Y) (ys:=List.replicate (n*z) .top) h1 V D (by unfold lim;omega) F (by simp) O N (λj hj u _=>by rw[Zt];exact .flat (.top _)) rfl rfl
   (λad Z=>by rw[Z,b,DV (P:=P) ht hu hi A C d rfl o.type ad m k n ki w (by unfold lim;omega) hb])
  rw[List.replicate_append_replicate,<-ZL,show n+(k'-(m+n))=k'-m by omega] at I
  refine⟨k',v',G',w',T,?_,I,by simpa[fg] using R⟩
  rw[kC P _ o J (.inl rfl)];simp only[S,yV]
 .exact h.elim
def mkB(z:Nat)(a:AV)(s:St)(l c:AV)(K:AV->St->Prop):Prop:=
 match l,c with
 |.int _ n,.int _ m=>(0<z/\0<=n/\n<=m/\m<=4294967296)/\K (.bsl s.bs.length n.toNat m.toNat) ⟨s.env,s.bs++[.row (cellsOf (List.replicate n.toNat a)++List.replicate ((m.toNat-n.toNat)*z) .top)],s.lo⟩
 |_,_=>False
theorem HY{s:St}{o:Oper}{t e:Nat}{lo co:Operand}(N:o.op=.makeSlice t lo co){i:TypeInfo}{z:Value}{x:AV}{sz:Nat}(T:P.underlying t=some (.slice e))(U:P.info? e=some i)(hz:i.zero=some z)(L:i.size=sz)(q:z.cells.size=sz)(hb:i.bytes<=4096)
  (S:cO z=some x) (A:ba x=true) (k:x.flat=true) {Q rc:Opd} (hl:opd lo=some Q) (hc:opd co=some rc) {K:St->Prop} (h:mkB sz x s (s.ev Q) (s.ev rc) λr Y=>K (Y.put o.dst r)):OpS P o s K:=by
 have hd:∀c,o.op≠.defer c:=λc e=>by rw[N] at e;cases e
 unfold mkB at h;split at h
 .rename_i kl n kc m hle O;obtain⟨⟨hz0,h0,h1,h2⟩,hK⟩:=h;refine OpS.ex (ι:=Unit) (λ_=>True) (λ_=>.bsl s.bs.length n.toNat m.toNat) (λ_=>⟨s.env,s.bs++[.row (cellsOf (List.replicate n.toNat x)++List.replicate ((m.toNat-n.toNat)*sz) .top)],s.lo⟩) hd (λ_ _=>hK) λE G a w hs=>?_;have g:=hs.ev hl;rw[hle] at g;have l:=hs.ev hc;rw[O] at l
  have v:(execOp a.eval o).run P w=.ok (.value (.slice (some ⟨w.heap.size,0,none⟩) n.toNat m.toNat)) (w.alloc (.cells ((Array.range (m.toNat*sz)).map λj=>z.cells[j %z.cells.size]!) e)):=by
   have hbm:(i.bytes:Int)*m<=281474976710656:=by
    have h4:(i.bytes:Int)<=4096:=by omega
    have:(i.bytes:Int)*m<=4096*4294967296:=Int.mul_le_mul h4 h2 (by omega) (by omega)
    omega
   have V:IntKind.i64.wrap n=n:=wrap_i64 h0 (by omega)
   have J:IntKind.i64.wrap m=m:=wrap_i64 (by omega) (by omega)
   have C:¬m<0:=by omega
   have B:¬n<0:=by omega
   have f:¬m<n:=by omega
   have d:¬281474976710656<(i.bytes:Int)*m:=by omega
   subst L;unfold execOp
   by_cases X:m.toNat*i.size=0
   .simp [N,Instr.makeSlice,run_underlying T,g.aK,l.aK,asInt,asIntOf,typeInfo,U,V,J,C,B,f,d,sizeOf,X,newRow];rw[show Array.range 0=#[] from rfl];simp
   .simp [N,Instr.makeSlice,run_underlying T,g.aK,l.aK,asInt,asIntOf,typeInfo,U,V,J,C,B,f,d,sizeOf,newRow,zeroValue,hz];exact λh6=>absurd h6 X
  obtain⟨us,R,Z⟩:=fT (M:=G.M) S A k q n.toNat m.toNat (by omega)
  obtain⟨c1,c2,_⟩:=(RV.flat (σ:=G.σ) (n:=s.bs.length) (ib (M:=G.M) S)).cells A
  have p:∀y∈List.replicate n.toNat x,y.cells.length=sz:=λy hy=>by
   rw[(ZY.1 hy).2,<-c1,ZJ,q]
  have I:=bC p;rw[zf] at I;have hul:us.length=n.toNat*sz:=by rw[R.1];simp
  have f:n.toNat*sz+(m.toNat-n.toNat)*sz=m.toNat*sz:=by
   rw[<-ZL];congr 1;omega
  have h7:=hs.om (.row (cellsOf (List.replicate n.toNat x)++List.replicate ((m.toNat-n.toNat)*sz) .top)) (cellsOf (List.replicate n.toNat x)++List.replicate ((m.toNat-n.toNat)*sz) .top) rfl (λds e=>by
   rw[dT] at e;split at e
   .cases e
   .cases e;rfl) ((Array.range (m.toNat*sz)).map λj=>z.cells[j %z.cells.size]!).toList e (by
    simp only[zC,zf,I,ZJ,Array.size_map,Array.size_range];omega) (λu hu=>by
    simp only[Array.toList_map,zk] at hu;obtain⟨j,hj,rfl⟩:=hu;have hp:0<z.cells.size:=by omega
    have D:j %z.cells.size<z.cells.size:=yT _ hp;have hm:=c2 (z.cells[j %z.cells.size]'D) (by simp)
    rw[getElem!_pos z.cells _ D];exact hm) (λj hj u hu=>by
    by_cases H:j<(cellsOf (List.replicate n.toNat x)).length
    .rw [ZH H];have F:j<us.length:=by omega
     have W:=Z j us[j] (zA F);rw[<-Array.getElem?_toList,hu] at W;cases W;exact .flat (R.at_ j H _ (zA F))
    .rw [ZW (by omega),Zt]
     exact .flat (.top _))
  refine⟨(),_,_,_,trivial,v,h7,?_⟩;exact RV.bsl (M:=G.M) (σ:=λb=>if b=s.bs.length then w.heap.size else G.σ b) (n:=(s.bs++[Box.row (cellsOf (List.replicate n.toNat x)++List.replicate ((m.toNat-n.toNat)*sz) .top)]).length) s.bs.length n.toNat m.toNat (some ⟨w.heap.size,0,none⟩) (by simp) (by omega) (by unfold lim;omega) (λ_=>by simp)
 .exact h.elim
def ME(z:Nat)(ab:List AV)(s:St)(K:AV->St->Prop):Prop:=
 ((0<z/\∀v∈ab,(ba v=true/\v.flat=true)/\v.cells.length=z)\/(z=1/\∃c,ab=[.mpt c]))/\K (.bsl s.bs.length ab.length ab.length) ⟨s.env,s.bs++[.row (cellsOf ab)],s.lo⟩
theorem IL{s:St}{o:Oper}{t e:TypeId}{n:Nat}{ps:Array (Nat×Operand)}(L:o.op=.buildSlice t n ps){i:TypeInfo}{z:Value}{sz:Nat}(ht:P.underlying t=some (.slice e))(Q:P.info? e=some i)(hz:i.zero=some z)(I:i.size=sz)(hlim:n*sz<=16777216)(hn:n<=lim)
  {rs:List Opd} (hl:ps.toList.length=rs.length) (d:rs.length=n) (hp:∀i (h:i<ps.toList.length) (h':i<rs.length),ps.toList[i].1=i/\opd ps.toList[i].2=some rs[i]) {K:St->Prop}
  (h:ME sz (rs.map s.ev) s λr s'=>K (s'.put o.dst r)):OpS P o s K:=by
 have hd:∀c,o.op≠.defer c:=λc e=>by rw[L] at e;cases e
 obtain⟨B,Y⟩:=h;rcases B with ⟨F,g⟩|⟨V,c,R⟩
 case inr=>
  subst V;obtain⟨r0,rfl⟩:∃r0,rs=[r0]:=List.length_eq_one_iff.1 (by have:=congrArg List.length R;simpa using this)
  simp only[zP,Zb,Zx,and_true] at R;obtain rfl:n=1:=d.symm;obtain⟨O,q⟩:∃O,ps.toList=[O]:=List.length_eq_one_iff.1 (by rw[hl];rfl)
  obtain⟨p,m⟩:=hp 0 (by rw[q];simp) (by simp)
  simp only[q,ZQ] at p m
  obtain rfl:ps=#[O]:=by
   have:=congrArg List.toArray q;simpa using this
  obtain⟨p1,p2⟩:=O;dsimp only at p m;subst p;refine OpS.ex (ι:=Unit) (λ_=>True) (λ_=>.bsl s.bs.length 1 1) (λ_=>⟨s.env,s.bs++[.row [.mpt c]],s.lo⟩) hd (λ_ _=>by simpa[R,cellsOf,AV.cells] using Y) λE G a w hs=>?_
  have hv:=hs.ev m;rw[R] at hv;obtain⟨e1,e2⟩:=hv.ft
  have Z:=hs.om (.row [.mpt c]) [.mpt c] rfl (λds e=>by cases e;rfl) [.map (some (G.σ c))] e (zG _) (λu hu=>by simp at hu;subst hu;rfl) (λj f u hu=>by
   match j,f with
   |0,_=>simp at hu;subst hu;exact .mpt c e2)
  refine⟨(),.slice (some ⟨w.heap.size,0,none⟩) 1 1,_,_,trivial,?_,Z,?_⟩
  .unfold execOp;simp only[L,Instr.buildSlice,yW,run_underlying ht,yV,sizeOf,typeInfo,run_program,Q,yX,I];simp[zeroValue,typeInfo,Q,hz,Instr.fill,e1,Value.cells,newRow];rw[show Array.range 1=#[0] from rfl];simp
  .exact RV.bsl (M:=G.M) (σ:=λb=>if b=s.bs.length then w.heap.size else G.σ b) (n:=(s.bs++[Box.row [AV.mpt c]]).length) s.bs.length 1 1 (some ⟨w.heap.size,0,none⟩) (by simp) (zG _) hn (λ_=>by simp)
 subst I;rw[zF] at Y;refine OpS.ex (ι:=Unit) (λ_=>True) (λ_=>.bsl s.bs.length rs.length rs.length) (λ_=>⟨s.env,s.bs++[.row (cellsOf (rs.map s.ev))],s.lo⟩) hd (λ_ _=>Y) λE G a w hs=>?_;have C:∀(j:Nat) (f:j<rs.length),(ba (s.ev rs[j])=true/\(s.ev rs[j]).flat=true)/\(s.ev rs[j]).cells.length=i.size:=λj f=>g _ (zk.2 ⟨_,zc f,rfl⟩)
 have key:∀cs:Array Value,cs.size=n*i.size->∃vs us,Instr.fill (λj=>some (j*i.size,i.size)) cs (ps.map λx=>(x.1,a.eval x.2)).toList=some vs/\vs.size=n*i.size/\eZ G.M i.size (rs.map s.ev) us/\∀(j:Nat) u,us[j]? =some u->vs[j]? =some u:=λcs N=>by
  obtain⟨vs,D,h2,_,us,h4,h5⟩:=vP (G:=G) (n:=s.bs.length) (sz:=i.size) (ps.toList.map λx=>(x.1,a.eval x.2)) (rs.map s.ev) 0 cs (by simpa using hl) (λj f=>by
   simp only[zF] at f;simp only[ZD,ZI];exact(hp j f (by omega)).1) (λj f A=>by
   simp only[zF] at f A;simp only[ZD];obtain⟨⟨U,T⟩,q3⟩:=C j A;exact⟨hs.ev (hp j f A).2,U,T,q3⟩) (by rw[N];simp[d])
  refine⟨vs,us,by simpa using D,by rw[h2,N],h4,λj u f=>?_⟩
  have:=h5 j u f
  rwa [Nat.zero_mul,ZI] at this
 have l:∀S:Array Value,((Array.range (n*i.size)).map λj=>S[j %S.size]!).size=n*i.size:=λS=>by simp
 obtain⟨vs,us,D,h2,h3,h4⟩:=key ((Array.range (n*i.size)).map λj=>(if n*i.size=0 then #[] else z.cells)[j %(if n*i.size=0 then #[] else z.cells).size]!) (l _)
 have X:(cellsOf (rs.map s.ev)).length=n*i.size:=by
  rw[bC (z:=i.size) (λy hy=>by
   obtain⟨o,L,rfl⟩:=zk.1 hy;exact(g _ (zk.2 ⟨o,L,rfl⟩)).2)]
  simp[d]
 have H:us.length=n*i.size:=by rw[h3.1];simp[d]
 have k:vs.toList=us:=by
  apply List.ext_getElem (by rw[H,ZJ,h2])
  intro j U T;have:=h4 j us[j] (zA T);rw[zi (by simpa using U)] at this
  simpa using yJ this
 have J:∀u∈us,u.oneCell'=true:=λu hu=>by
  obtain⟨j,f,rfl⟩:=ZZ.1 hu
  have hq:j/i.size<(rs.map s.ev).length:=by
   rw[zF,d];exact(Zr F).2 (by omega)
  obtain⟨a1,a2⟩:=h3.2 _ hq;obtain⟨u',b1,b2,_⟩:=a2 (j %i.size) (by rw[a1];exact yT _ F)
  have W:j/i.size*i.size+j %i.size=j:=by have:=yG j i.size;rw[yP] at this;exact this
  rw[W,zA f] at b1;cases b1;exact b2
 have Z:=hs.om (.row (cellsOf (rs.map s.ev))) (cellsOf (rs.map s.ev)) rfl (λds e=>by
   rw[dT] at e;split at e
   .cases e
   .cases e;rfl) vs.toList e (by rw[k,H,X];exact zG _) (λu hu=>J u (k▸hu)) (λj f u hu=>.flat (h3.at_ j f u (k▸hu)))
 refine⟨(),.slice (some ⟨w.heap.size,0,none⟩) rs.length rs.length,_,_,trivial,?_,Z,?_⟩
 .have he:(ps.map λ(x:Nat×Operand)=>match x with|(i,x)=>(i,a.eval x)).toList=(ps.map λx=>(x.1,a.eval x.2)).toList:=rfl;have v:¬(n*i.size>2^24):=by omega
  unfold execOp;simp only[L,Instr.buildSlice,yW,run_underlying ht,yV,sizeOf,typeInfo,run_program,Q,yX,if_neg v]
  by_cases h0:n*i.size=0
  .simp only[h0,if_true] at D|-;simp only[yW,yX,yV];rw[he,D,d];rfl
  .simp only[h0,if_false] at D|-;simp only[yW,zeroValue,typeInfo,run_program,Q,hz,yX,yV];rw[he,D,d];rfl
 .exact RV.bsl (M:=G.M) (σ:=λb=>if b=s.bs.length then w.heap.size else G.σ b) (n:=(s.bs++[Box.row (cellsOf (rs.map s.ev))]).length) s.bs.length rs.length rs.length (some ⟨w.heap.size,0,none⟩) (by simp) (zG _) (by rw[d];exact hn) (λ_=>by simp)
def nG:List (Int×AV)->Int->Option AV
 |[],_=>none
 |(k,x)::l,n=>if n=k then some x else nG l n
def iW:List (Int×AV)->Int->AV->List (Int×AV)
 |[],n,y=>[(n,y)]
 |(k,x)::l,n,y=>if n=k then (k,y)::l else (k,x)::iW l n y
def ly:List (Int×AV)->Int->Nat->Option (Nat×Value)
 |[],_,_=>none
 |(k,x)::l,n,j=>if n=k then some (j,vOf x) else ly l n (j+1)
theorem xR:∀(l:List (Int×AV)) (n:Int) (j:Nat),match nG l n with
  |some x=>∃i,ly l n j=some (i,vOf x)
  |none=>ly l n j=none
 |[],n,j=>rfl
 |(k,x)::l,n,j=>by
  simp only[nG,ly]
  by_cases h:n=k
  .simp only[if_pos h];exact⟨j,rfl⟩
  .simp only[if_neg h];exact xR l n (j+1)
theorem sV{ik:IntKind}(n:Int):∀(l:List (Int×AV)) (i j:Nat),Instr.findNow (.int ik) (.int .i64 n) (qx i l) j=some (ly l n j)
 |[],i,j=>rfl
 |(k,x)::l,i,j=>by
  simp only[qx,Instr.findNow,Instr.sameNow,ly]
  by_cases h:n=k
  .subst h;simp
  .simp only[if_true,h,if_false];rw[show (n==k)=false by simpa using h]
   exact sV n l (i+1) (j+1)
theorem xP(n:Int)(y:AV):∀(l:List (Int×AV)) (i j:Nat),ly l n j=none->qx i (iW l n y)=qx i l++[{key:=.int .i64 n,val:=vOf y,born:=i+l.length}]/\(iW l n y).length=l.length+1
 |[],i,j,_=>⟨rfl,rfl⟩
 |(k,x)::l,i,j,h=>by
  simp only[ly] at h;split at h
  .cases h
  .rename_i hk;obtain⟨b,a⟩:=xP n y l (i+1) (j+1) h;simp only[iW,if_neg hk,qx,b,ze,zX,a];exact⟨by rw[show i+1+l.length=i+(l.length+1) by omega],trivial⟩
theorem xO(n:Int)(y:AV):∀(l:List (Int×AV)) (i j p:Nat) (u:Value),ly l n j=some (p,u)->j<=p/\qx i (iW l n y)=(qx i l).modify (p-j) (λe=>{e with key:=.int .i64 n,val:=vOf y})/\(iW l n y).length=l.length/\((qx i l)[p-j]?).map (·.key)=some (.int .i64 n)
 |[],i,j,p,u,h=>by cases h
 |(k,x)::l,i,j,p,u,h=>by
  simp only[ly] at h;split at h
  .rename_i hk;cases h;subst hk;simp[iW,qx]
  .rename_i hk;obtain⟨d,b,c,a⟩:=xO n y l (i+1) (j+1) p u h;obtain⟨q,rfl⟩:∃q,p=j+1+q:=⟨p-(j+1),by omega⟩
   rw[show j+1+q-(j+1)=q by omega] at b a
   rw[show j+1+q-j=q+1 by omega]
   refine⟨by omega,?_,?_,?_⟩
   .simp only[iW,if_neg hk,qx,b,List.modify_succ_cons]
   .simp only[iW,if_neg hk,zX,c]
   .simpa [qx] using a
theorem eL{bs:List Box}{l:List (Int×AV)}(b:Nat):aa (bs++[.mp l]) b=aa bs b:=by
 rw[aq];split
 .rename_i e;subst e;simp[aa,Box.cs?]
 .rfl
theorem jE{bs:List Box}{l:List (Int×AV)}(b:Nat):ah (bs++[.mp l]) b=if b=bs.length then some (L7 l) else ah bs b:=by
 simp only[ah]
 by_cases h:b<bs.length
 .rw [zK h,if_neg (by omega)]
 .by_cases a:b=bs.length
  .subst a;simp[Box.lb?]
  .rw [if_neg a,zR (by simp;omega),zR (by omega)]
theorem CQ(es:List MapEntry)(n:Nat){M:Hp}:(mLB es n).M.le M/\(mLB es n).n=0:=⟨(λ_ _ _ h=>by cases h),rfl⟩
theorem HX(l:List (Int×AV)){M:Hp}:(L7 l).M.le M/\(L7 l).n=0:=CQ _ _
theorem RS.NK(h:RS E G s a w):RS E ⟨G.M,λb=>if b=s.bs.length then w.heap.size else G.σ b,G.cl⟩ ⟨s.env,s.bs++[.mp []],s.lo⟩ a (w.alloc (.map #[] 0)):=by
 have hw:∀B,B<w.heap.size->(w.alloc (.map #[] 0)).heap[B]? =w.heap[B]?:=λB hB=>Below.heap_alloc _ _ _ hB
 have i:=h.grow (M':=G.M) (w':=w.alloc (.map #[] 0)) ⟨rfl,rfl,rfl,by simp,Hp.le_refl _,λB hB _=>hw B hB,λ_ _ _ _=>rfl⟩ (λb o v D=>by
  have:=h.ok b o v D;simp only[Hp.of] at this|-;rw[bN (hw b (Hp.lt h.ok D))];exact this)
 have u:E.w.heap.size<=w.heap.size:=h.fr.size;have H:(w.alloc (.map #[] 0)).heap[w.heap.size]? =some (.map #[] 0):=World.alloc_heap_new w _;generalize w.alloc (.map #[] 0)=w' at*
 have m:∀p,(⟨s.env,s.bs++[.mp []],s.lo⟩:St).at p=s.at p:=λp=>by
  cases p with
  |sl t=>rfl
  |bx b j=>simp only[St.at,eL]
 have f:∀b,b<s.bs.length->(if b=s.bs.length then w.heap.size else G.σ b)=G.σ b:=λb hb=>by rw[if_neg (by omega)]
 have g:∀p x,s.at p=some x->aw (λb=>if b=s.bs.length then w.heap.size else G.σ b) a w' p=aw G.σ a w' p:=λp x hp=>by
  cases p with
  |sl t=>rfl
  |bx b j=>
   simp only[St.at] at hp
   cases hb:aa s.bs b with
   |none=>rw[hb] at hp;cases hp
   |some cs=>simp only[aw];rw[f b (aC hb)]
 have k:∀B,w.heap.size<=B->∀p,G.cl p≠some B:=λB hB p hp=>by
  have:=(h.cllt p B hp).1;omega
 refine⟨i.fr,i.ok,h.nt,λp x hp=>?_,λb j x hp=>?_,λb cs hb=>?_,λb cs hb=>?_,λb q cs A hb d e=>?_,λp z l hp=>?_,h.clinj,λp B hB b cs hb=>?_,i.cllt,h.lo,by simp only[zC];exact Nat.le_add_right_of_le h.len,λb hb=>?_,?_⟩
 .rw [m] at hp;rw[g p x hp];exact(i.val p x hp).mono (Hp.le_refl _) (by simp) f
 .rw [m] at hp;rw[g _ x hp];exact i.one b j x hp
 .rw [eL] at hb;simp only[f b (aC hb)];exact i.box b cs hb
 .rw [eL] at hb;simp only[f b (aC hb)];exact i.bmem b cs hb
 .rw [eL] at hb d;simp only[f b (aC hb),f q (aC d)] at e;exact h.inj b q cs A hb d e
 .rw [m] at hp;rw[g p _ hp];exact i.own p z l hp
 .rw [eL] at hb;simp only[f b (aC hb)];exact h.clbox p B hB b cs hb
 .have:=h.len;simp only[f b (by omega)]
  exact h.sig b hb
 .have hold:∀b x,ah s.bs b=some x->G.σ b<w.heap.size:=λb x hb=>(zh.1 (h.sp.ob _ _ (.inl ⟨b,x,hb,rfl,rfl⟩)).1).1;refine⟨λB o hs=>?_,λb x hb=>?_,λb q x C hb d e=>?_,h.sp.ds,λb x hb j B o F=>?_⟩
  .rcases hs with ⟨b,x,hb,e,rfl⟩|⟨hm,rfl⟩
   .rw [jE] at hb;split at hb
    .rename_i r;cases hb;simp only[r,if_true] at e;subst e;exact⟨H,k _ (zG _),.inr u⟩
    .simp only at e;rw[f b (aO hb)] at e;exact i.sp.ob B _ (.inl ⟨b,x,hb,e,rfl⟩)
   .exact i.sp.ob B _ (.inr ⟨hm,rfl⟩)
  .rw [jE] at hb;split at hb
   .cases hb;exact⟨(HX []).1,zJ _,λc y=>absurd y (Zj _)⟩
   .obtain ⟨K,J,I⟩:=h.sp.base b x hb;have:=aO hb;exact⟨K,J,λc y=>(f c (by omega)).trans (I c y)⟩
  .rw [jE] at hb d;split at hb
   .rename_i r;split at d
    .rename_i n;rw[r,n]
    .simp only at e;rw[f q (aO d),if_pos r] at e;exact absurd (hold q C d) (by omega)
   .split at d
    .rename_i n;simp only at e;rw[f b (aO hb),if_pos n] at e;exact absurd (hold b x hb) (by omega)
    .simp only[f b (aO hb),f q (aO d)] at e;exact h.sp.inj b q x C hb d e
  .rw [jE] at hb;split at hb
   .cases hb;cases F
   .exact i.sp.rows b x hb j B o F
theorem eh{bs:List Box}{b:Nat}{x y:Box}(h:bs[b]? =some x)(d:x.cs? =none)(a:y.cs? =none)(c:Nat):aa (bs.set b y) c=aa bs c:=by
 have hb:b<bs.length:=(zB.1 h).1
 by_cases e:b=c
 .subst e;simp only[aa,h,zq,if_true,hb,d,a]
 .simp only[aa,zq,if_neg e]
theorem bd{bs:List Box}{b:Nat}{x y:Box}{z:LB}(h:bs[b]? =some x)(a:y.lb? =some z)(c:Nat):ah (bs.set b y) c=if c=b then some z else ah bs c:=by
 have hb:b<bs.length:=(zB.1 h).1;simp only[ah,zq]
 by_cases e:b=c
 .subst e;simp[hb,a]
 .rw [if_neg e,if_neg (λk=>e k.symm)]
theorem RS.A6(h:RS E G s a w){b:Nat}{x:Box}{es:List MapEntry}{n:Nat}(hb:s.bs[b]? =some x)(c:x.lb? =some (mLB es n)):w.heap[G.σ b]? =some (.map es.toArray n)/\(∀p,G.cl p≠some (G.σ b))/\(E.FP (G.σ b)\/E.w.heap.size<=G.σ b):=
 h.sp.ob (G.σ b) _ (.inl ⟨b,mLB es n,by simp[ah,hb,c],rfl,rfl⟩)
theorem RS.MP(h:RS E G s a w){b:Nat}{l:List (Int×AV)}(hb:s.bs[b]? =some (.mp l)):w.heap[G.σ b]? =some (.map (jx l) l.length)/\(∀p,G.cl p≠some (G.σ b))/\(E.FP (G.σ b)\/E.w.heap.size<=G.σ b):=
 h.A6 hb rfl
theorem RS.Gr(h:RS E G s a w){b:Nat}{x y:Box}{es p:List MapEntry}{n n':Nat}(hb:s.bs[b]? =some x)(I:x.lb? =some (mLB es n))(C:x.cs? =none)(A:y.cs? =none)(v:y.lb? =some (mLB p n')):RS E G ⟨s.env,s.bs.set b y,s.lo⟩ a (w.putObj (G.σ b) (.map p.toArray n')):=by
 obtain⟨F,L,K⟩:=h.A6 hb I;have l:ah s.bs b=some (mLB es n):=by simp[ah,hb,I]
 have D:G.σ b<w.heap.size:=(zh.1 F).1;refine h.Je (.map p.toArray n') F rfl K (by simp) (eh hb C A) ⟨λB o hs=>?_,λc z d=>?_,λc M z H d g e=>?_,h.sp.ds,λc z d j B o J=>?_⟩
 .rcases hs with ⟨c,z,d,e,r⟩|⟨hm,r⟩
  .rw [bd hb v] at d;split at d
   .rename_i k;cases d;subst k e r;exact⟨World.putObj_heap_same D,L,K⟩
   .rename_i k;obtain⟨m,q,t⟩:=h.sp.ob B o (.inl ⟨c,z,d,e,r⟩);have f:B≠G.σ b:=λu=>k (h.sp.inj c b z _ d l (e.trans u));exact⟨by rw[World.putObj_heap_other f];exact m,q,t⟩
  .obtain ⟨m,q,t⟩:=h.sp.ob B o (.inr ⟨hm,r⟩)
   have f:B≠G.σ b:=λu=>by
    rw[u,F,r] at m;cases m
   exact⟨by rw[World.putObj_heap_other f];exact m,q,t⟩
 .rw [bd hb v] at d;split at d
  .cases d;exact⟨(CQ _ _).1,zJ _,λc d=>absurd d (Zj _)⟩
  .exact h.sp.base c z d
 .rw [bd hb v] at d g;split at d
  .rename_i k;split at g
   .rename_i i;rw[k,i]
   .rename_i i;rw[k] at e;exact absurd (h.sp.inj M b H _ g l e.symm) i
  .rename_i k;split at g
   .rename_i i;rw[i] at e;exact absurd (h.sp.inj c b z _ d l e) k
   .exact h.sp.inj c M z H d g e
 .rw [bd hb v] at d;split at d
  .cases d;cases J
  .obtain ⟨m,q,t⟩:=h.sp.rows c z d j B o J;have f:B≠G.σ b:=λu=>L _ (u▸q);exact⟨by rw[World.putObj_heap_other f];exact m,q,t⟩
theorem RS.Nn(h:RS E G s a w){b:Nat}{l:List (Int×AV)}(hb:s.bs[b]? =some (.mp l))(l':List (Int×AV)):RS E G ⟨s.env,s.bs.set b (.mp l'),s.lo⟩ a (w.putObj (G.σ b) (.map (jx l') l'.length)):=
 h.Gr hb rfl rfl rfl rfl
def JK:List (Int×AV×Nat)->Int->Option AV
 |[],_=>none
 |(k,x,_)::l,n=>if n=k then some x else JK l n
def wW:List (Int×AV×Nat)->Int->AV->Nat->List (Int×AV×Nat)
 |[],n,y,c=>[(n,y,c)]
 |(k,x,b)::l,n,y,c=>if n=k then (k,y,b)::l else (k,x,b)::wW l n y c
def Co:List (Int×AV×Nat)->Int->Nat->Nat
 |[],_,c=>c+1
 |(k,_,_)::l,n,c=>if n=k then c else Co l n c
def LR:List (Int×AV×Nat)->Int->List (Int×AV×Nat)
 |[],_=>[]
 |(k,x,b)::l,n=>if n=k then l else (k,x,b)::LR l n
def mH:List (Int×AV×Nat)->Int->Nat->Option (Nat×Value)
 |[],_,_=>none
 |(k,x,_)::l,n,j=>if n=k then some (j,vOf x) else mH l n (j+1)
theorem xG:∀(l:List (Int×AV×Nat)) (n:Int) (j:Nat),match JK l n with
  |some x=>∃i,mH l n j=some (i,vOf x)
  |none=>mH l n j=none
 |[],n,j=>rfl
 |(k,x,b)::l,n,j=>by
  simp only[JK,mH]
  by_cases h:n=k
  .simp only[if_pos h];exact⟨j,rfl⟩
  .simp only[if_neg h];exact xG l n (j+1)
theorem vO{ik:IntKind}(n:Int):∀(l:List (Int×AV×Nat)) (j:Nat),Instr.findNow (.int ik) (.int .i64 n) (mqE l) j=some (mH l n j)
 |[],j=>rfl
 |(k,x,b)::l,j=>by
  have ih:=vO (ik:=ik) n l (j+1);simp only[mqE] at ih;simp only[mqE,zP,Instr.findNow,Instr.sameNow,mH]
  by_cases h:n=k
  .subst h;simp
  .simp only[if_true,h,if_false];rw[show (n==k)=false by simpa using h]
   exact ih
theorem xF(n:Int)(y:AV)(c:Nat):∀(l:List (Int×AV×Nat)) (j:Nat),mH l n j=none->mqE (wW l n y c)=mqE l++[{key:=.int .i64 n,val:=vOf y,born:=c}]/\Co l n c=c+1
 |[],j,_=>⟨rfl,rfl⟩
 |(k,x,b)::l,j,h=>by
  simp only[mH] at h;split at h
  .cases h
  .rename_i hk;obtain⟨a,d⟩:=xF n y c l (j+1) h;simp only[wW,Co,if_neg hk];refine⟨?_,d⟩;simp only[mqE,zP,ze] at a|-;rw[a]
theorem xE(n:Int)(y:AV)(c:Nat):∀(l:List (Int×AV×Nat)) (j p:Nat) (u:Value),mH l n j=some (p,u)->j<=p/\mqE (wW l n y c)=(mqE l).modify (p-j) (λe=>{e with key:=.int .i64 n,val:=vOf y})/\Co l n c=c/\((mqE l)[p-j]?).map (·.key)=some (.int .i64 n)/\mqE (LR l n)=(mqE l).eraseIdx (p-j)/\p-j<(mqE l).length
 |[],j,p,u,h=>by cases h
 |(k,x,b)::l,j,p,u,h=>by
  simp only[mH] at h;split at h
  .rename_i hk;cases h;subst hk;simp[wW,Co,mqE,LR]
  .rename_i hk;obtain⟨m,g,i,f,d,a⟩:=xE n y c l (j+1) p u h;obtain⟨q,rfl⟩:∃q,p=j+1+q:=⟨p-(j+1),by omega⟩
   rw[show j+1+q-(j+1)=q by omega] at g f d a
   rw[show j+1+q-j=q+1 by omega]
   simp only[mqE] at g f d a;refine⟨by omega,?_,?_,?_,?_,?_⟩
   .simp only[wW,if_neg hk,mqE,zP,g,List.modify_succ_cons]
   .simp only[Co,if_neg hk,i]
   .simpa [mqE] using f
   .simp only[LR,if_neg hk,mqE,zP,d,List.eraseIdx_cons_succ]
   .simp [mqE] at a|-;exact a
def gk:AV->Bool
 |.bool _=>true
 |.int _ _=>true
 |.agg cs=>cs.all λc=>match c with
  |.bool _=>true
  |.int _ _=>true
  |_=>false
 |_=>false
theorem xU{M:Hp}{σ:Nat->Nat}{n:Nat}{x:AV}{v:Value}(a:gk x=true)(h:RV M σ n x v):v=vOf x:=by
 unfold gk at a;split at a
 .exact h.cS
 .exact h.aK
 .rename_i cs;obtain⟨vs,rfl,g,_,f⟩:=h.eD;simp only[vOf];congr 2;apply List.ext_getElem (by simpa using g)
  intro i j k;have e:i<cs.length:=by omega
  have d:=f i e vs[i] (zA j);have b:=zS.1 a _ (zc e);rw[ZD];generalize cs[i]=c at d b;split at b
  .exact d.cS
  .exact d.aK
  .cases b
 .cases a
theorem I9{M:Hp}{σ:Nat->Nat}{n:Nat}{x:AV}(b:gk x=true):RV M σ n x (vOf x):=by
 unfold gk at b;split at b
 .exact .flat (.bool _)
 .exact .flat (.int _ _)
 .rename_i cs;refine .flat (.agg cs (cs.map Ov) (by simp) (λv d=>?_) (λj h v d=>?_))
  .obtain ⟨c,e,rfl⟩:=zk.1 d;have a:=zS.1 b _ e;split at a
   .rfl
   .rfl
   .cases a
  .have a:=zS.1 b _ (zc h);rw[ZF,zA h] at d;simp only[zM,zN] at d;subst d;generalize cs[j]=c at a;split at a
   .exact .bool _
   .exact .int _ _
   .cases a
 .cases b
theorem xd{s:St}{o:Oper}{t:TypeId}{r:Option Operand}{g:Option Opd}(d:o.op=.makeMap t r)(hr:lY r=some g){kt p:TypeId}(l:P.underlying t=some (.map kt p)){K:St->Prop}
  (h:(match g.map s.ev with|none=>True|some (.int _ _)=>True|_=>False)/\K (St.put ⟨s.env,s.bs++[.mp []],s.lo⟩ o.dst (.mpt s.bs.length))):OpS P o s K:=by
 have m:∀c,o.op≠.defer c:=λc e=>by rw[d] at e;cases e
 refine OpS.val (.mpt s.bs.length) ⟨s.env,s.bs++[.mp []],s.lo⟩ m h.2 λE G a w hs=>?_;refine⟨.map (some w.heap.size),_,_,?_,hs.NK,?_⟩
 .unfold execOp
  cases r with
  |none=>simp[d,Instr.makeMap]
  |some x=>
   simp only[lY] at hr;split at hr
   .rename_i rx j;cases hr;have f:=h.1;simp only[zM] at f;split at f
    .rename_i heq;cases heq
    .rename_i k n heq;simp only[zN] at heq;have i:=hs.ev j;rw[heq] at i;simp[d,Instr.makeMap,run_underlying l,i.aK,asInt,asIntOf]
    .exact f.elim
   .cases hr
 .have:=RV.mpt (M:=G.M) (σ:=λb=>if b=s.bs.length then w.heap.size else G.σ b) (n:=(s.bs++[Box.mp []]).length) s.bs.length (by simp)
  simpa using this
def ue(s:St)(m k v:AV)(K:St->Prop):Prop:=
 match m,k with
 |.mpt b,.int .i64 n=>match s.bs[b]? with
  |some (.mp l)=>gk v=true/\K ⟨s.env,s.bs.set b (.mp (iW l n v)),s.lo⟩
  |some (.mq l c)=>gk v=true/\K ⟨s.env,s.bs.set b (.mq (wW l n v c) (Co l n c)),s.lo⟩
  |_=>False
 |_,_=>False
theorem bt{w:World}{r:Nat}{o:Obj}(h:w.heap[r]? =some o)(hk:o.isCells=false):(getObj r).run P w=.ok o w:=by
 cases o<;>first|(simp[getObj,Sem.run,h];done)|cases hk
theorem da{w:World}{r n:Nat}{es:Array MapEntry}{o':Obj}(h:w.heap[r]? =some (.map es n)):(setObj r o').run P w=.ok () (w.putObj r o'):=by
 simp[setObj,Sem.run,h,World.putObj]
theorem bH{kt:TypeId}{ik:IntKind}(a:P.underlying kt=some (.int ik))(e:Bool)(n:Int)(w:World):(Instr.checkKey e 10000 kt (.int .i64 n)).run P w=.ok () w:=by
 show (Instr.checkKey e (9999+1) kt (.int .i64 n)).run P w=.ok () w;unfold Instr.checkKey;simp only[yW,run_underlying a,yV];rfl
theorem gr{kt:TypeId}{ik:IntKind}(a:P.underlying kt=some (.int ik))(n:Int)(l:List (Int×AV))(w:World):(Instr.findKey kt (.int .i64 n) (jx l).toList).run P w=.ok (ly l n 0) w:=by
 simp only[Instr.findKey,yW,run_underlying a,yV,jx,sV];rfl
theorem lP{kt:TypeId}{ik:IntKind}(a:P.underlying kt=some (.int ik))(n:Int)(l:List (Int×AV×Nat))(w:World):(Instr.findKey kt (.int .i64 n) (mqE l).toArray.toList).run P w=.ok (mH l n 0) w:=by
 simp only[Instr.findKey,yW,run_underlying a,yV,vO];rfl
theorem tw{s:St}{o:Oper}{t:TypeId}{m k v:Operand}(D:o.op=.mapUpdate t m k v)(I:o.dst=none){Q R rv:Opd}(hm:opd m=some Q)(hk:opd k=some R)(S:opd v=some rv){kt U:TypeId}{ik:IntKind}(N:P.underlying t=some (.map kt U))(f:P.underlying kt=some (.int ik)){K:St->Prop}
  (h:ue s (s.ev Q) (s.ev R) (s.ev rv) K):OpS P o s K:=by
 have T:∀c,o.op≠.defer c:=λc e=>by rw[D] at e;cases e
 unfold ue at h;split at h
 .rename_i b n F H;split at h
  .rename_i l hb;obtain⟨B,O⟩:=h;refine OpS.skip _ T I O λE G a w hs=>?_;have j:=hs.ev hm;rw[F] at j;have p:=hs.ev hk;rw[H] at p;have g:=xU B (hs.ev S);obtain⟨A,_,_⟩:=hs.MP hb;refine⟨G,_,?_,hs.Nn hb _⟩;have M:=j.ft.1;have L:=p.aK;have y:=gr f n l w;unfold execOp
   cases x:ly l n 0 with
   |none=>
    rw[x] at y;obtain⟨z,C⟩:=xP n (s.ev rv) l 0 0 x
    have he:(jx l).push {key:=.int .i64 n,val:=vOf (s.ev rv),born:=l.length}=jx (iW l n (s.ev rv)):=by
     simp only[jx,z,ZI];simp
    simp only[D,Instr.mapUpdate,M,L,g,yW,run_underlying N,yV,bt A rfl,bH f,y,da A,he,C]
    rfl
   |some q=>
    obtain⟨i,u⟩:=q;rw[x] at y;obtain⟨_,z,C,J⟩:=xO n (s.ev rv) l 0 0 i u x;rw[yB] at z J
    have he:(jx l).modify i (λe=>{e with key:=.int .i64 n,val:=vOf (s.ev rv)})=jx (iW l n (s.ev rv)):=by
     simp only[jx,z];apply Array.ext';simp
    have r:(((jx l)[i]?).map (·.key)).getD (.int .i64 n)=.int .i64 n:=by
     simp only[jx,yS,J,ZS]
    have d:∀w':World,(Instr.keyThatStays (.int .i64 n) (.int .i64 n)).run P w'=.ok (.int .i64 n) w':=λw'=>by
     simp[Instr.keyThatStays,Instr.sameBits]
    simp only[D,Instr.mapUpdate,M,L,g,yW,run_underlying N,yV,bt A rfl,bH f,y,r,d,da A,he,C];rfl
  .rename_i l c hb;obtain⟨B,O⟩:=h;refine OpS.skip _ T I O λE G a w hs=>?_;have j:=hs.ev hm;rw[F] at j;have p:=hs.ev hk;rw[H] at p;have g:=xU B (hs.ev S);obtain⟨A,_,_⟩:=hs.A6 hb rfl;refine⟨G,_,?_,hs.Gr hb rfl rfl rfl rfl⟩;have M:=j.ft.1;have L:=p.aK;have y:=lP f n l w;unfold execOp
   cases x:mH l n 0 with
   |none=>
    rw[x] at y;obtain⟨z,C⟩:=xF n (s.ev rv) c l 0 x
    have he:(mqE l).toArray.push {key:=.int .i64 n,val:=vOf (s.ev rv),born:=c}=(mqE (wW l n (s.ev rv) c)).toArray:=by
     rw[z];simp
    simp only[D,Instr.mapUpdate,M,L,g,yW,run_underlying N,yV,bt A rfl,bH f,y,da A,he,C]
    rfl
   |some q=>
    obtain⟨i,u⟩:=q;rw[x] at y;obtain⟨_,z,C,J,_,_⟩:=xE n (s.ev rv) c l 0 i u x;rw[yB] at z J
    have he:(mqE l).toArray.modify i (λe=>{e with key:=.int .i64 n,val:=vOf (s.ev rv)})=(mqE (wW l n (s.ev rv) c)).toArray:=by
     rw[z];apply Array.ext';simp
    have r:(((mqE l).toArray[i]?).map (·.key)).getD (.int .i64 n)=.int .i64 n:=by
     simp only[yS,J,ZS]
    have d:∀w':World,(Instr.keyThatStays (.int .i64 n) (.int .i64 n)).run P w'=.ok (.int .i64 n) w':=λw'=>by
     simp[Instr.keyThatStays,Instr.sameBits]
    simp only[D,Instr.mapUpdate,M,L,g,yW,run_underlying N,yV,bt A rfl,bH f,y,r,d,da A,he,C];rfl
  .exact h.elim
 .exact h.elim
def okR(ok:Bool)(x:AV)(b:Bool):AV:=match ok with
 |true=>.tup [x,.bool b]
 |false=>x
def vK(ok:Bool)(z:AV)(s:St)(m k:AV)(K:AV->Prop):Prop:=
 match m,k with
 |.mpt b,.int .i64 n=>match s.bs[b]? with
  |some (.mp l)=>match nG l n with
   |some x=>gk x=true/\K (okR ok x true)
   |none=>K (okR ok z false)
  |some (.mq l _)=>match JK l n with
   |some x=>gk x=true/\K (okR ok x true)
   |none=>K (okR ok z false)
  |_=>False
 |.nmp,.int .i64 _=>K (okR ok z false)
 |_,_=>False
theorem RV.Mo{M:Hp}{σ:Nat->Nat}{n:Nat}{v:Value}(h:RV M σ n .nmp v):v=.map none:=by
 cases h with
 |flat h=>cases h;rfl
theorem A9{s:St}{o:Oper}{t:TypeId}{m k:Operand}{ok:Bool}(Q:o.op=.lookup t m k ok){S T:Opd}(hm:opd m=some S)(hk:opd k=some T){kt R:TypeId}{ik:IntKind}(L:P.underlying t=some (.map kt R))(f:P.underlying kt=some (.int ik))
  {i:TypeInfo} {zv:Value} {z:AV} (Y:P.info? R=some i) (X:i.zero=some zv) (O:cO zv=some z) {K:St->Prop} (h:vK ok z s (s.ev S) (s.ev T) λr=>K (s.put o.dst r)):OpS P o s K:=by
 have V:∀c,o.op≠.defer c:=λc e=>by rw[Q] at e;cases e
 have tup:∀(M:Hp) (σ:Nat->Nat) (nb:Nat) (x:AV) (v:Value) (b:Bool),RV M σ nb x v->RV M σ nb (.tup [x,.bool b]) (.tuple #[v,.bool b]):=λM σ nb x v b A=>by
  refine .tup _ [v,.bool b] rfl λj N u hu=>?_
  match j,N with
  |0,_=>simp at hu;subst hu;exact A
  |1,_=>simp at hu;subst hu;exact .flat (.bool b)
 have fin:∀(x:AV) (b:Bool),(∃v:Value,(∀(M:Hp) (σ:Nat->Nat) (nb:Nat),RV M σ nb x v)/\∀E G a w,RS E G s a w->(Instr.lookup t (a.eval m) (a.eval k) ok).run P w=.ok (if ok then .tuple #[v,.bool b] else v) w)->K (s.put o.dst (okR ok x b))->OpS P o s K:=λx b ⟨v,U,d⟩ W=>by
  cases ok with
  |true=>
   refine OpS.pure _ V W λE G a w hs=>⟨_,?_,tup _ _ _ _ _ _ (U _ _ _)⟩;unfold execOp;simp only[Q,d E G a w hs,yW,yV,if_true]
   rfl
  |false=>
   refine OpS.pure _ V W λE G a w hs=>⟨v,?_,U _ _ _⟩;unfold execOp;simp only[Q,d E G a w hs,yW,yV];rfl
 have F:∀(M:Hp) (σ:Nat->Nat) (nb:Nat),RV M σ nb z zv:=λM σ nb=>.flat (ib O);have H:∀w:World,(zeroValue R).run P w=.ok zv w:=λw=>by simp[zeroValue,typeInfo,Y,X]
 unfold vK at h;split at h
 .rename_i b n B C;split at h
  .rename_i l hb
   have d:∀E G a w,RS E G s a w->a.eval m=.map (some (G.σ b))/\a.eval k=.int .i64 n/\w.heap[G.σ b]? =some (.map (jx l) l.length):=λE G a w hs=>by
    have g:=hs.ev hm;rw[B] at g;have p:=hs.ev hk;rw[C] at p;exact⟨g.ft.1,p.aK,(hs.MP hb).1⟩
   have y:=xR l n 0;split at h
   .rename_i x A;rw[A] at y;obtain⟨j,N⟩:=y;refine fin x true ⟨vOf x,λM σ nb=>I9 h.1,λE G a w hs=>?_⟩ h.2;obtain⟨D,J,I⟩:=d E G a w hs;have q:=gr f n l w;rw[N] at q;simp only[Instr.lookup,D,J,yW,run_underlying L,yV,bt I rfl,yX,bH f,q]
   .rename_i A;rw[A] at y;simp only at y;refine fin z false ⟨zv,F,λE G a w hs=>?_⟩ h;obtain⟨D,J,I⟩:=d E G a w hs;have q:=gr f n l w;rw[y] at q;simp only[Instr.lookup,D,J,yW,run_underlying L,yV,bt I rfl,yX,bH f,q,H]
  .rename_i l c hb
   have d:∀E G a w,RS E G s a w->a.eval m=.map (some (G.σ b))/\a.eval k=.int .i64 n/\w.heap[G.σ b]? =some (.map (mqE l).toArray c):=λE G a w hs=>by
    have g:=hs.ev hm;rw[B] at g;have p:=hs.ev hk;rw[C] at p;exact⟨g.ft.1,p.aK,(hs.A6 hb rfl).1⟩
   have y:=xG l n 0;split at h
   .rename_i x A;rw[A] at y;obtain⟨j,N⟩:=y;refine fin x true ⟨vOf x,λM σ nb=>I9 h.1,λE G a w hs=>?_⟩ h.2;obtain⟨D,J,I⟩:=d E G a w hs;have q:=lP f n l w;rw[N] at q;simp only[Instr.lookup,D,J,yW,run_underlying L,yV,bt I rfl,yX,bH f,q]
   .rename_i A;rw[A] at y;simp only at y;refine fin z false ⟨zv,F,λE G a w hs=>?_⟩ h;obtain⟨D,J,I⟩:=d E G a w hs;have q:=lP f n l w;rw[y] at q;simp only[Instr.lookup,D,J,yW,run_underlying L,yV,bt I rfl,yX,bH f,q,H]
  .exact h.elim
 .rename_i n B C;refine fin z false ⟨zv,F,λE G a w hs=>?_⟩ h;have g:=hs.ev hm;rw[B] at g;have p:=hs.ev hk;rw[C] at p;have D:a.eval m=.map none:=g.Mo;have q:=gr (P:=P) f n [] w;simp only[ly] at q;simp only[Instr.lookup,D,p.aK,yW,run_underlying L,yV,yX,bH f];rw[show ([]:List MapEntry)=(jx []).toList from rfl,q];simp only[yV,yW,H,yX]
 .exact h.elim
theorem HF{s:St}{o:Oper}{x n:Operand}{t e:Nat}(m:o.op=.slice t x none (some n) none){rx l:Opd}(u:opd x=some rx)(i:opd n=some l){sz:Nat}(v:P.underlying t=some (.slice e))(g:dB P e=some sz){ki:IntKind}(f:s.ev rx=.sl .full [])(j:s.ev l=.int ki 0){K:St->Prop}
  (h:K (s.put o.dst (.sl .full []))):OpS P o s K:=by
 have y:∀c,o.op≠.defer c:=λc e=>by rw[m] at e;cases e
 refine OpS.pure _ y h λE G a w hs=>?_;have d:=hs.ev u;rw[f] at d;have b:=hs.ev i;rw[j] at b;have b:=b.aK;obtain⟨q,C,B,off,r,p,_,_,_,z,_⟩:=d.cX;have:=z rfl;subst this;refine⟨.slice q 0 0,?_,?_⟩
 .have A:(Instr.sliceBounds true 0 0 none (some (.int ki 0)) none).run P w=.ok (0,0,0) w:=by
   unfold Instr.sliceBounds;simp[Instr.sliceBound,asIntOf]
  unfold execOp;simp only[m,Instr.sliceAt,yW,run_underlying v,yV,p,Instr.slice,yI,zM,b,ZP,A,aR g,yX];simp
 .have k:a.eval x=.slice q 0 0:=p;rw[<-k];exact d
theorem II{s:St}{o:Oper}{x:Operand}{t e:Nat}(n:o.op=.call {callee:=.builtin .cap,args:=#[x],argTypes:=#[t]}){rx:Opd}(j:opd x=some rx)(u:P.underlying t=some (.slice e)){K:St->Prop}(h:di .cap [s.ev rx] λr=>K (s.put o.dst r)):OpS P o s K:=by
 have p:∀c,o.op≠.defer c:=λc e=>by rw[n] at e;cases e
 have d:∀(a:Act) (w:World) (g:Option Addr) (m k:Nat),a.eval x=.slice g m k->(execOp a.eval o).run P w=.ok (.value (.int .i64 k)) w:=λa w g m k h=>by
  unfold execOp;simp[n,resolve,invoke,builtin,Builtin.cap_,run_underlying u,h,goInt]
 unfold di at h;generalize f:s.ev rx=v at h;cases v<;>first|(simp[mD.val] at h;done)|skip
 .rename_i c l;cases c<;>first|(simp[mD.val] at h;done)|skip
  refine OpS.pure _ p h λE G a w hs=>?_;have b:=hs.ev j;rw[f] at b;obtain⟨g,z,B,off,q,i,_,_,_,y,_⟩:=b.cX;have:=y rfl;subst this;exact⟨_,d a w _ _ _ i,.flat (.int _ _)⟩
 .refine OpS.pure _ p h λE G a w hs=>?_;have b:=hs.ev j;rw[f] at b;obtain⟨g,i,_⟩:=b.cj;exact⟨_,d a w _ _ _ i,.flat (.int _ _)⟩
theorem Eo(a:List Int):∀(b:ByteArray),(a.foldl (λr n=>r.push (UInt8.ofNat n.toNat)) b).size=b.size+a.length:=by
 induction a with
 |nil=>intro b;simp
 |cons n a ih=>intro b;rw[Zv,ih,ByteArray.size_push,zX];omega
theorem x4:∀{l:List AV} {a:List Int},vu l=some a->l=a.map (AV.int .u8)
 |[],a,h=>by cases h;rfl
 |x::l,a,h=>by
  unfold vu at h;split at h
  .rename_i e;cases e
  .rename_i n r e;cases e;split at h
   .rename_i m hm;cases h;rw[x4 hm];rfl
   .cases h
  .cases h
theorem IK{s:St}{o:Oper}{x:Operand}{t u e:Nat}(M:o.op=.convert t u x){rx:Opd}(Q:opd x=some rx)(R:P.underlying t=some (.slice e))(he:P.underlying e=some (.int .u8))(hu:P.underlying u=some .string){K:St->Prop}(h:di .bts [s.ev rx] λr=>K (s.put o.dst r)):OpS P o s K:=by
 have S:∀c,o.op≠.defer c:=λc e=>by rw[M] at e;cases e
 unfold di at h;generalize H:s.ev rx=v at h;cases v<;>first|(simp[mD.val] at h;done)|skip
 rename_i V l
 cases I:vu l with
 |none=>simp[mD.val,I] at h
 |some b=>
  simp only[mD.val,I] at h;have q:=x4 I;refine OpS.pure _ S h λE G a w hs=>?_;have m:=hs.ev Q;rw[H] at m;obtain⟨D,k,B,off,d⟩:=m.sv (sz:=1) (λy L=>by rw[q] at L;obtain⟨n,_,rfl⟩:=zk.1 L;rfl)
  have hlen:l.length=b.length:=by rw[q,zF]
  have g:∀j (A:j<b.length),w.cell? ⟨B,off+j,none⟩=some (.int .u8 b[j]):=λj A=>by
   obtain⟨_,U⟩:=d.el j (by omega)
   obtain⟨v,T,_,O⟩:=U 0 (by simp[q,AV.cells])
   have N:=hs.ok _ _ _ T;simp only[q,ZD,AV.cells,ZQ] at O;cases O;simp only[Hp.of,Nat.mul_one,Zf] at N;exact N
  refine⟨.string (strOf b),?_,.flat (.str _ (by rw[strOf,Eo,<-hlen];have:=d.len;simpa using this))⟩
  have p:(convert t u (a.eval x)).run P w=.ok (.string (strOf b)) w:=by
   rw[d.eq,run_convert_bytes_string w t u e D l.length k R he hu]
   cases C:D with
   |none=>
    have F:l=[]:=Classical.byContradiction λi=>by have:=d.at_ i;rw[C] at this;cases this
    have J:b=[]:=by cases b with|nil=>rfl|cons=>rw[q] at F;cases F
    subst J
    simp[Conv.bytesToString,strOf]
   |some D=>
    have f:=run_loadCells_list (P:=P) (w:=w) D (b.map (Value.int .u8)) (λj v A=>by
     have z:j<b.length:=by
      have:=(zB.1 A).1;simpa using this
     have F:l≠[]:=λi=>by rw[i] at hlen;simp at hlen;omega
     have i:=d.at_ F;rw[C] at i;cases i;rw[bS,g j z];simp[zA z] at A;rw[<-A])
    rw[zF] at f;rw[hlen];exact run_bytesToString w D b.length k b f
  unfold execOp;simp only[M,yW,p,yV,yX]
theorem H4{s:St}{o:Oper}{t:TypeId}{x:Operand}(b:o.op=.load t x){rx:Opd}(a:opd x=some rx){agg:Bool}{n:Nat}(e:od P t=some agg)(d:agg=true->dB P t=some n){K:St->Prop}(h:di (.lde agg n) [s.ev rx] λr=>K (s.put o.dst r)):OpS P o s K:=by
 refine iZ b a e d ?_;unfold di at h;generalize s.ev rx=v at h;cases v<;>first|(simp[mD.val] at h;done)|skip
 rename_i cs;simp only[mD.val,OT] at h;simp only[St.rd,bV]
 cases agg with
 |true=>
  simp only at h|-
  cases hb:Nat.ble n cs.length with
  |true=>rw[hb] at h;exact af.2 ⟨rfl,h⟩
  |false=>rw[hb] at h;exact h.elim
 |false=>
  cases cs with
  |nil=>exact h.elim
  |cons c r=>exact h
theorem IQ{v:Value}(h:cO v=some (.sl .full [])):v=.slice none 0 0:=by
 cases v<;>first|(simp[cO,pa] at h;done)|skip
 case pointer a=>cases a<;>simp[cO,pa] at h
 case map a=>cases a<;>simp[cO,pa] at h
 case slice a n k=>
  cases a with
  |some a=>simp[cO,pa] at h
  |none=>
   match n,k,h with
   |0,0,_=>rfl
   |0,k+1,h=>simp[cO,pa] at h
   |n+1,k,h=>simp[cO,pa] at h
theorem Cy{y:Operand}(h:opd y=some (.c (.sl .full []))):y=.const (.slice none 0 0):=by
 cases y with
 |tmp t=>cases h
 |const v=>
  simp only[opd] at h
  cases a:cO v with
  |none=>rw[a] at h;cases h
  |some x=>
   rw[a] at h;have b:x=.sl .full []:=by simpa using h
   subst b
   rw[IQ a]
 |func f=>cases h
 |global g=>cases h
theorem u9{s:St}{o:Oper}{neg:Bool}{t u e:Nat}{x y:Operand}(p:o.op=.binOp (match neg with|true=>.neq|false=>.eql) t x y u){rx:Opd}(v:opd x=some rx)(r:y=.const (.slice none 0 0))(n:P.underlying t=some (.slice e)){K:St->Prop}{q:Cap}{l:List AV}(j:s.ev rx=.sl q l)
  (h:(l≠[]->K (s.put o.dst (.bool (bY neg false))))/\(l=[]->∀b,K (s.put o.dst (.bool (bY neg b))))):OpS P o s K:=by
 have z:∀c,o.op≠.defer c:=λc e=>by rw[p] at e;cases e
 refine OpS.ex (ι:=Bool) (λb=>l≠[]->b=false) (λb=>.bool (bY neg b)) (λ_=>s) z (λb hb=>?_) λE G a w hs=>?_
 .by_cases g:l=[]
  .exact h.2 g b
  .rw [hb g];exact h.1 g
 .have f:=hs.ev v;rw[j] at f;obtain⟨i,k,B,off,sz,C,_,_,_,_,A,_⟩:=f.cX;refine⟨i.isNone,.bool (bY neg i.isNone),G,w,λg=>by rw[A g];rfl,?_,hs,.flat (.bool _)⟩
  subst r;have d:a.eval x=.slice i l.length k:=C;rw[dk P _ o p w (by rw[d];simp) (by rw[d];simp),d]
  cases neg with
  |false=>
   have m:=Lib.run_eql_slice_nil (P:=P) w t e i l.length k 0 0 n
   simp only[Act.eval,m,yV,bY]
  |true=>
   have m:=run_neq_slice_nil_any (P:=P) w t e i l.length k 0 0 n;simp only[Act.eval,m,yV,bY]
def KX(a:AV)(s:St)(m k:AV)(K:AV->St->Prop):Prop:=False
theorem FI{s:St}{o:Oper}{t:TypeId}{m k:Operand}(l:o.op=.mapEntry t m k){a b:Opd}(hm:opd m=some a)(hk:opd k=some b){kt c:TypeId}{ik:IntKind}(j:P.underlying t=some (.map kt c))(f:P.underlying kt=some (.int ik))
  {i:TypeInfo} {zv:Value} {z:AV} (n:P.info? c=some i) (g:i.zero=some zv) (e:cO zv=some z) {K:St->Prop} (h:KX z s (s.ev a) (s.ev b) λr d=>K (d.put o.dst r)):OpS P o s K:=h.elim
def Jq(s:St)(m j v:AV)(K:St->Prop):Prop:=False
theorem Ep{s:St}{o:Oper}{t:TypeId}{m j v:Operand}(e:o.op=.entryStore t m j v)(c:o.dst=none){a b rv:Opd}(hm:opd m=some a)(f:opd j=some b)(d:opd v=some rv){K:St->Prop}
  (h:Jq s (s.ev a) (s.ev b) (s.ev rv) K):OpS P o s K:=h.elim
def Jy(a:List FK)(s:St)(m k v:AV)(K:St->Prop):Prop:=False
def KD(a:List FK)(ok:Bool)(z:AV)(s:St)(m k:AV)(K:AV->Prop):Prop:=False
theorem Ew{s:St}{o:Oper}{t:TypeId}{m k v:Operand}(j:o.op=.mapUpdate t m k v)(e:o.dst=none){a b rv:Opd}(hm:opd m=some a)(hk:opd k=some b)(g:opd v=some rv){kt f:TypeId}{c:List FK}(i:P.underlying t=some (.map kt f))(d:nT P kt=some c){K:St->Prop}
  (h:Jy c s (s.ev a) (s.ev b) (s.ev rv) K):OpS P o s K:=h.elim
theorem Fz{s:St}{o:Oper}{t:TypeId}{m k:Operand}{ok:Bool}(l:o.op=.lookup t m k ok){a b:Opd}(hm:opd m=some a)(hk:opd k=some b){kt d:TypeId}{c:List FK}(j:P.underlying t=some (.map kt d))(f:nT P kt=some c)
  {i:TypeInfo} {zv:Value} {z:AV} (n:P.info? d=some i) (g:i.zero=some zv) (e:cO zv=some z) {K:St->Prop} (h:KD c ok z s (s.ev a) (s.ev b) λr=>K (s.put o.dst r)):OpS P o s K:=h.elim
structure TR where
 key:ByteArray
 ids:List Int
 born:Nat
 B:Nat
 junk:List Value
 T:TypeId
namespace TR
def cap(r:TR):Nat:=r.ids.length+r.junk.length
def ab(r:TR):List Value:=r.ids.map (Value.int .i64)++r.junk
def val(r:TR):Value:=.slice (some ⟨r.B,0,none⟩) r.ids.length r.cap
def lit(r:TR):AV:=.lit (some ⟨r.B,0,none⟩) r.ids.length r.cap
def ent(r:TR):MapEntry:={key:=.string r.key,val:=r.val,born:=r.born}
def row(r:TR):Nat×Nat×Obj:=(r.B,r.B,.cells r.ab.toArray r.T (0,0))
end TR
structure kG(x:TB)(l:List TR):Prop where
 es:x.es=l.map TR.ent
 rows:∀r∈l,r.row∈x.rows
 jB:∀q∈x.rows,q.1=q.2.1
 nodK:(l.map TR.key).Nodup
 nodB:(l.map TR.B).Nodup
 cap:∀r∈l,r.cap<=9223372036854775807
structure jk(x:TB)(l:List TR)(r:TR):Prop where
 es:x.es=l.map TR.ent
 rows:∀q∈l,q.key≠r.key->q.row∈x.rows
 row:r.row∈x.rows
 jB:∀q∈x.rows,q.1=q.2.1
 nodK:(l.map TR.key).Nodup
 nodB:(l.map TR.B).Nodup
 new:∀q∈l,q.key≠r.key->q.B≠r.B
 cap:∀q∈l,q.cap<=9223372036854775807
 cap1:r.cap<=9223372036854775807
def cm:List TR->TR->Nat->List TR
 |[],r,c=>[{r with born:=c}]
 |q::l,r,c=>if q.key=r.key then {r with born:=q.born}::l else q::cm l r c
def Jk(l:List TR)(k:ByteArray):List TR:=l.filter λq=>decide (q.key≠k)
theorem G9(k:ByteArray):(k==k)=true:=by
 rcases k with ⟨⟨l⟩⟩;show (Array.mk l==Array.mk l)=true;simp
theorem O3{k q:ByteArray}(h:k≠q):(k==q)=false:=by
 rcases k with ⟨⟨l⟩⟩;rcases q with ⟨⟨m⟩⟩;show (Array.mk l==Array.mk m)=false;simpa using h
def jJ(k:ByteArray):List TR->Nat->Option (Nat×Value)
 |[],_=>none
 |q::l,j=>if q.key=k then some (j,q.val) else jJ k l (j+1)
theorem vM(k:ByteArray):∀(l:List TR) (j:Nat),Instr.findNow .string (.string k) (l.map TR.ent) j=some (jJ k l j)
 |[],j=>rfl
 |q::l,j=>by
  simp only[zP,Instr.findNow,TR.ent,Instr.sameNow,jJ]
  by_cases h:q.key=k
  .rw [if_pos h,h,G9]
  .rw [if_neg h,O3 (λe=>h e.symm)];exact vM k l (j+1)
theorem na{k:ByteArray}:∀{l:List TR} {j i:Nat} {v:Value},jJ k l j=some (i,v)->∃q,l[i-j]? =some q/\j<=i/\q.key=k/\v=q.val/\∀a b,a<i-j->l[a]? =some b->b.key≠k
 |[],j,i,v,h=>by cases h
 |q::l,j,i,v,h=>by
  simp only[jJ] at h;split at h
  .rename_i hk;cases h;exact⟨q,by simp,zG _,hk,rfl,λa b h=>by omega⟩
  .rename_i hk;obtain⟨d,m,o,g,f,e⟩:=na h;refine⟨d,by rw[show i-j=(i-(j+1))+1 by omega];simpa using m,by omega,g,f,λa b n c=>?_⟩
   cases a with
   |zero=>simp at c;subst c;exact hk
   |succ a=>exact e a b (by omega) (by simpa using c)
theorem nc{k:ByteArray}:∀{l:List TR} {j:Nat},jJ k l j=none->∀q∈l,q.key≠k
 |[],_,_,q,c=>by cases c
 |q::l,j,h,b,a=>by
  simp only[jJ] at h;split at h
  .cases h
  .rename_i hk;rcases zI.1 a with rfl|a
   .exact hk
   .exact nc h b a
theorem tX:∀{l:List TR} {r:TR} {c:Nat},(∀q∈l,q.key≠r.key)->cm l r c=l++[{r with born:=c}]
 |[],_,_,_=>rfl
 |q::l,r,c,h=>by
  rw[cm,if_neg (h q (zV ..)),tX λb a=>h b (zQ _ a)];rfl
theorem tW:∀{l:List TR} {r q:TR} {c i:Nat},l[i]? =some q->q.key=r.key->(∀b a,b<i->l[b]? =some a->a.key≠r.key)->cm l r c=l.set i {r with born:=q.born}
 |[],_,_,_,_,h,_,_=>by simp at h
 |p::l,r,q,c,0,h,hk,_=>by
  simp at h;subst h
  rw[cm,if_pos hk];rfl
 |p::l,r,q,c,i+1,h,hk,d=>by
  rw[cm,if_neg (d 0 p (by omega) rfl),tW (by simpa using h) hk λb a f e=>d (b+1) a (by omega) (by simpa using e)]
  rfl
theorem kJ{l:List TR}{r q:TR}{c:Nat}(h:q∈cm l r c)(a:(l.map TR.key).Nodup):(q∈l/\q.key≠r.key)\/(∃n,q={r with born:=n}):=by
 induction l with
 |nil=>simp[cm] at h;exact .inr ⟨c,h⟩
 |cons p l ih=>
  rw[zP,Zc] at a;rw[cm] at h;split at h
  .rename_i hk;rcases zI.1 h with h|h
   .exact .inr ⟨_,h⟩
   .refine .inl ⟨zQ _ h,λe=>a.1 ?_⟩;rw[hk,<-e];exact List.mem_map_of_mem h
  .rename_i hk;rcases zI.1 h with h|h
   .subst h;exact .inl ⟨zV ..,hk⟩
   .rcases ih h a.2 with h|h
    .exact .inl ⟨zQ _ h.1,h.2⟩
    .exact .inr h
theorem Em{l:List TR}{r:TR}{c:Nat}(a:(l.map TR.key).Nodup):((cm l r c).map TR.key).Nodup:=by
 induction l with
 |nil=>simp[cm]
 |cons p l ih=>
  have b:=a;rw[zP,Zc] at a;rw[cm];split
  .rename_i hk;rw[zP];show (r.key::_).Nodup;rw[<-hk];exact b
  .rename_i hk;rw[zP,Zc];refine⟨λh=>?_,ih a.2⟩;obtain⟨q,f,d⟩:=zk.1 h;rcases kJ f a.2 with e|⟨n,rfl⟩
   .exact a.1 (by rw[<-d];exact List.mem_map_of_mem e.1)
   .exact hk d.symm
theorem En{l:List TR}{r:TR}{c:Nat}(a:(l.map TR.key).Nodup)(b:(l.map TR.B).Nodup)(hr:∀q∈l,q.key≠r.key->q.B≠r.B):((cm l r c).map TR.B).Nodup:=by
 induction l with
 |nil=>simp[cm]
 |cons p l ih=>
  rw[zP,Zc] at b a;rw[cm];split
  .rename_i hk;rw[zP,Zc];refine⟨λh=>?_,b.2⟩;obtain⟨q,f,d⟩:=zk.1 h;exact hr q (zQ _ f) (λe=>a.1 (by rw[hk,<-e];exact List.mem_map_of_mem f)) d
  .rename_i hk;rw[zP,Zc];refine⟨λh=>?_,ih a.2 b.2 λq g=>hr q (zQ _ g)⟩;obtain⟨q,f,d⟩:=zk.1 h;rcases kJ f a.2 with i|⟨n,rfl⟩
   .exact b.1 (by rw[<-d];exact List.mem_map_of_mem i.1)
   .exact hr p (zV ..) hk d.symm
theorem jk.put{x:TB}{l:List TR}{r:TR}(h:jk x l r){a:List MapEntry}{e:Nat}(he:a=(cm l r x.c).map TR.ent):kG ⟨a,e,x.rows⟩ (cm l r x.c):=by
 refine⟨he,λq d=>?_,h.jB,Em h.nodK,En h.nodK h.nodB h.new,λq d=>?_⟩
 .rcases kJ d h.nodK with b|⟨n,rfl⟩
  .exact h.rows q b.1 b.2
  .exact h.row
 .rcases kJ d h.nodK with b|⟨n,rfl⟩
  .exact h.cap q b.1
  .exact h.cap1
theorem xu{α:Type}(f:TR->α)(l:List TR)(k:ByteArray):((Jk l k).map f).Sublist (l.map f):=(List.filter_sublist).map f
theorem jk.del{x:TB}{l:List TR}{r:TR}(h:jk x l r):kG ⟨(Jk l r.key).map TR.ent,x.c,x.rows⟩ (Jk l r.key):=by
 refine⟨rfl,λq a=>?_,h.jB,h.nodK.sublist (xu _ l _),h.nodB.sublist (xu _ l _),λq a=>h.cap q (zo.1 a).1⟩;obtain⟨d,b⟩:=zo.1 a;exact h.rows q d (by simpa using b)
section
variable{E:Entry}{G:Gh}{s:St}{a:Act}{w:World}{P:Program}
theorem RS.BR(h:RS E G s a w){b:Nat}{x:TB}(hb:s.bs[b]? =some (.tab x)):w.heap[G.σ b]? =some (.map x.es.toArray x.c)/\(∀p,G.cl p≠some (G.σ b))/\(E.FP (G.σ b)\/E.w.heap.size<=G.σ b):=
 h.sp.ob (G.σ b) _ (.inl ⟨b,x.lb,by simp[ah,hb,Box.lb?],rfl,rfl⟩)
theorem RS.tY(h:RS E G s a w){b:Nat}{x:TB}(hb:s.bs[b]? =some (.tab x)){j B:Nat}{o:Obj}(c:(j,B,o)∈x.rows):w.heap[B]? =some o/\G.cl (.bx b j)=some B/\∀k,G.M B k=none:=
 h.sp.rows b x.lb (by simp[ah,hb,Box.lb?]) j B o c
theorem RS.iu(h:RS E G s a w){b:Nat}{x:TB}(n:TB)(hb:s.bs[b]? =some (.tab x))(hr:∀q∈n.rows,q∈x.rows):RS E G ⟨s.env,s.bs.set b (.tab n),s.lo⟩ a (w.putObj (G.σ b) (.map n.es.toArray n.c)):=by
 obtain⟨D,J,I⟩:=h.BR hb;have m:ah s.bs b=some x.lb:=by simp[ah,hb,Box.lb?]
 have A:G.σ b<w.heap.size:=(zh.1 D).1;refine h.Je (.map n.es.toArray n.c) D rfl I (by simp) (eh hb rfl rfl) ⟨λB o hs=>?_,λc z d=>?_,λc K z F d g e=>?_,h.sp.ds,λc z d j B o H=>?_⟩
 .rcases hs with ⟨c,z,d,e,t⟩|⟨hm,t⟩
  .rw [bd hb rfl] at d;split at d
   .rename_i l;cases d;subst l e t;exact⟨World.putObj_heap_same A,J,I⟩
   .rename_i l;obtain⟨p,r,u⟩:=h.sp.ob B o (.inl ⟨c,z,d,e,t⟩);have f:B≠G.σ b:=λv=>l (h.sp.inj c b z _ d m (e.trans v));exact⟨by rw[World.putObj_heap_other f];exact p,r,u⟩
  .obtain ⟨p,r,u⟩:=h.sp.ob B o (.inr ⟨hm,t⟩)
   have f:B≠G.σ b:=λv=>by
    rw[v,D,t] at p;cases p
   exact⟨by rw[World.putObj_heap_other f];exact p,r,u⟩
 .rw [bd hb rfl] at d;split at d
  .cases d;exact⟨(λ_ _ _ h=>by cases h),zJ _,λc d=>absurd d (Zj _)⟩
  .exact h.sp.base c z d
 .rw [bd hb rfl] at d g;split at d
  .rename_i l;split at g
   .rename_i i;rw[l,i]
   .rename_i i;rw[l] at e;exact absurd (h.sp.inj K b F _ g m e.symm) i
  .rename_i l;split at g
   .rename_i i;rw[i] at e;exact absurd (h.sp.inj c b z _ d m e) l
   .exact h.sp.inj c K z F d g e
 .have key:∀y,ah s.bs c=some y->(j,B,o)∈y.rs->(w.putObj (G.σ b) (.map n.es.toArray n.c)).heap[B]? =some o/\G.cl (.bx c j)=some B/\∀k,G.M B k=none:=λy L C=>by
   obtain⟨p,r,u⟩:=h.sp.rows c y L j B o C;have f:B≠G.σ b:=λv=>J _ (v▸r);exact⟨by rw[World.putObj_heap_other f];exact p,r,u⟩
  rw[bd hb rfl] at d;split at d
  .rename_i l;cases d;subst l;exact key _ m (hr _ H)
  .exact key z d H
theorem fm{kt:TypeId}(a:P.underlying kt=some .string)(e:Bool)(k:ByteArray)(w:World):(Instr.checkKey e 10000 kt (.string k)).run P w=.ok () w:=by
 show (Instr.checkKey e (9999+1) kt (.string k)).run P w=.ok () w;unfold Instr.checkKey;simp only[yW,run_underlying a,yV];rfl
theorem gq{kt:TypeId}(a:P.underlying kt=some .string)(k:ByteArray)(l:List TR)(w:World):(Instr.findKey kt (.string k) (l.map TR.ent).toArray.toList).run P w=.ok (jJ k l 0) w:=by
 simp only[Instr.findKey,yW,run_underlying a,yV,vM];rfl
def O4(k:Int)(v:Value)(i:Nat):MapEntry:={key:=.int .i64 k,val:=v,born:=i}
structure AmOk(x:LB)(l:List (Int×AV)):Prop where
 mp:∃es:List MapEntry,x.mp=some (es,l.length)/\es.length=l.length/\∀i (e:Int×AV),l[i]? =some e->∃v,es[i]? =some (O4 e.1 v i)/\FV x.M e.2 v
 rows:x.rows=[]
 n:x.n=0
section
variable{E:Entry}{G:Gh}{s:St}{a:Act}{w:World}{P:Program}
end
inductive TbE where
 |get
 |put
 |del
 |clr
 |Ic
 |HQ
 |H3
deriving Inhabited
def tbK(e:TbE)(ab:List AV)(s:St)(d:Option Nat)(K:St->Prop):Prop:=
 match e with
 |.get=>∃b x l key,ab=[.mpt b,.str key]/\s.bs[b]? =some (.tab x)/\kG x l/\(∀r∈l,r.key=key->K (s.put d r.lit))/\((∀r∈l,r.key≠key)->K (s.put d (.sl .full [])))
 |.put=>∃b x l r,ab=[.mpt b,.str r.key,r.lit]/\s.bs[b]? =some (.tab x)/\jk x l r/\∀a,kG a (cm l r x.c)->K ⟨s.env,s.bs.set b (.tab a),s.lo⟩
 |.del=>False
 |.clr=>∃b x,ab=[.mpt b]/\s.bs[b]? =some (.tab x)/\(∀q∈x.rows,q.1=q.2.1)/\∀a,kG a []->K ((⟨s.env,s.bs.set b (.tab a),s.lo⟩:St).put d (.tup []))
 |.Ic=>False
 |.HQ=>False
 |.H3=>False
theorem Ji{e:TbE}{ab:List AV}{s:St}{d:Option Nat}{K K':St->Prop}(hk:∀s,K s->K' s)(h:tbK e ab s d K):tbK e ab s d K':=by
 cases e with
 |get=>
  obtain⟨b,x,l,key,i,g,f,c,n⟩:=h
  exact⟨b,x,l,key,i,g,f,λr hr k=>hk _ (c r hr k),λm=>hk _ (n m)⟩
 |put=>
  obtain⟨b,x,l,r,i,g,f,c⟩:=h
  exact⟨b,x,l,r,i,g,f,λj a=>hk _ (c j a)⟩
 |del=>exact h.elim
 |clr=>
  obtain⟨b,x,i,g,f,c⟩:=h
  exact⟨b,x,i,g,f,λj a=>hk _ (c j a)⟩
 |Ic=>exact h.elim
 |HQ=>exact h.elim
 |H3=>exact h.elim
theorem y8{s:St}{o:Oper}{t:TypeId}{m k:Operand}(z:o.op=.lookup t m k false){L M:Opd}(hm:opd m=some L)(hk:opd k=some M){kt F:TypeId}(N:P.underlying t=some (.map kt F))(d:P.underlying kt=some .string)
  {i:TypeInfo} {zv:Value} (S:P.info? F=some i) (Q:i.zero=some zv) (u:cO zv=some (.sl .full [])) {K:St->Prop} (h:tbK .get [s.ev L,s.ev M] s o.dst K):OpS P o s K:=by
 have O:∀c,o.op≠.defer c:=λc e=>by rw[z] at e;cases e
 obtain⟨b,x,l,key,he,hb,R,D,C⟩:=h;simp only[Zx,and_true] at he;obtain⟨A,B⟩:=he;have y:∀w:World,(zeroValue F).run P w=.ok zv w:=λw=>by simp[zeroValue,typeInfo,S,Q]
 have f:∀E G a w,RS E G s a w->a.eval m=.map (some (G.σ b))/\a.eval k=.string key/\w.heap[G.σ b]? =some (.map (l.map TR.ent).toArray x.c):=λE G a w hs=>by
  have g:=hs.ev hm;rw[A] at g;have n:=hs.ev hk;rw[B] at n;exact⟨g.ft.1,n.cK.1,by rw[<-R.es];exact(hs.BR hb).1⟩
 cases p:jJ key l 0 with
 |some q=>
  obtain⟨j,v⟩:=q;obtain⟨r,U,_,T,rfl,_⟩:=na p;refine OpS.pure _ O (D r (zE U) T) λE G a w hs=>⟨r.val,?_,.flat (.lit _ _ _)⟩;obtain⟨J,I,H⟩:=f E G a w hs;unfold execOp
  simp[z,Instr.lookup,J,I,run_underlying N,bt H rfl,fm d,gq d,p]
 |none=>
  refine OpS.pure _ O (C (nc p)) λE G a w hs=>⟨zv,?_,.flat (ib u)⟩;obtain⟨J,I,H⟩:=f E G a w hs;unfold execOp;simp[z,Instr.lookup,J,I,run_underlying N,bt H rfl,fm d,gq d,p,y]
theorem y6{s:St}{o:Oper}{t:TypeId}{m k v:Operand}(J:o.op=.mapUpdate t m k v)(D:o.dst=none){O Q rv:Opd}(hm:opd m=some O)(hk:opd k=some Q)(R:opd v=some rv){kt et:TypeId}(S:P.underlying t=some (.map kt et))(p:P.underlying kt=some .string){K:St->Prop}
  (h:tbK .put [s.ev O,s.ev Q,s.ev rv] s o.dst K):OpS P o s K:=by
 have T:∀c,o.op≠.defer c:=λc e=>by rw[J] at e;cases e
 obtain⟨b,x,l,r,he,hb,F,U⟩:=h;simp only[Zx,and_true] at he;obtain⟨A,C,z⟩:=he;have hlen:l.length=(l.map TR.ent).toArray.size:=by simp
 cases H:jJ r.key l 0 with
 |none=>
  have X:=nc H
  have y:(l.map TR.ent).toArray.push {key:=.string r.key,val:=r.val,born:=x.c}=((cm l r x.c).map TR.ent).toArray:=by
   rw[tX X];simp[TR.ent,TR.val,TR.cap]
  refine OpS.skip _ T D (U ⟨(cm l r x.c).map TR.ent,x.c+1,x.rows⟩ (F.put rfl)) λE G a w hs=>⟨G,_,?_,hs.iu _ hb λq I=>I⟩;have g:=hs.ev hm;rw[A] at g;have N:=g.ft.1;have n:=hs.ev hk;rw[C] at n;have M:=n.cK.1;have f:=hs.ev R;rw[z] at f;have L:a.eval v=r.val:=f.ot;have d:=(hs.BR hb).1;rw[F.es] at d;unfold execOp;simp only[J,Instr.mapUpdate,N,M,L,yW,run_underlying S,yV,bt d rfl,fm p,gq p,H,da d,y]
  rfl
 |some q=>
  obtain⟨j,v'⟩:=q;obtain⟨q,d,_,W,rfl,V⟩:=na H;rw[yB] at d V
  have Y:j<l.length:=by
   rcases zt j l.length with h|h
   .exact h
   .rw [zR h] at d;cases d
  have B:((((l.map TR.ent).toArray[j]?).map (·.key)).getD (.string r.key))=.string r.key:=by
   simp[d,TR.ent,W]
  have y:(l.map TR.ent).toArray.modify j (λe=>{e with key:=.string r.key,val:=r.val})=((cm l r x.c).map TR.ent).toArray:=by
   rw[tW d W V];apply Array.ext
   .simp
   .intro i hi1 Z;simp only[Array.getElem_modify,List.getElem_toArray,ZD,List.getElem_set];split
    .rename_i e;subst e;have:=(zB.1 d).2;rw[this];rfl
    .rfl
  have u:∀w':World,(Instr.keyThatStays (.string r.key) (.string r.key)).run P w'=.ok (.string r.key) w':=λw'=>by
   simp[Instr.keyThatStays,Instr.sameBits,G9]
  refine OpS.skip _ T D (U ⟨(cm l r x.c).map TR.ent,x.c,x.rows⟩ (F.put rfl)) λE G a w hs=>⟨G,_,?_,hs.iu _ hb λq I=>I⟩;have g:=hs.ev hm;rw[A] at g;have N:=g.ft.1;have n:=hs.ev hk;rw[C] at n;have M:=n.cK.1;have f:=hs.ev R;rw[z] at f;have L:a.eval v=r.val:=f.ot;have d:=(hs.BR hb).1;rw[F.es] at d;unfold execOp;simp only[J,Instr.mapUpdate,N,M,L,yW,run_underlying S,yV,bt d rfl,fm p,gq p,H,B,u,da d,y];rfl
end
section
variable{P:Program}
theorem y9{s:St}{o:Oper}{t u:TypeId}{m k:Operand}(f:o.op=.call {callee:=.builtin .delete,args:=#[m,k],argTypes:=#[t,u]}){a b:Opd}(hm:opd m=some a)(hk:opd k=some b){kt d:TypeId}(e:P.underlying t=some (.map kt d))(c:P.underlying kt=some .string){K:St->Prop}
  (h:tbK .del [s.ev a,s.ev b] s o.dst K):OpS P o s K:=h.elim
theorem z6{s:St}{o:Oper}{t:TypeId}{m:Operand}(g:o.op=.call {callee:=.builtin .clear,args:=#[m],argTypes:=#[t]}){f:Opd}(hm:opd m=some f){kt u:TypeId}(l:P.underlying t=some (.map kt u)){K:St->Prop}
  (h:tbK .clr [s.ev f] s o.dst K):OpS P o s K:=by
 have p:∀c,o.op≠.defer c:=λc e=>by rw[g] at e;cases e
 obtain⟨b,x,he,hb,i,r⟩:=h;simp only[Zx,and_true] at he;refine OpS.val _ _ p (r ⟨[],x.c,[]⟩ ⟨rfl,(λ_ h=>by cases h),(λ_ h=>by cases h),List.nodup_nil,List.nodup_nil,(λ_ h=>by cases h)⟩) λE G a w hs=>?_
 have d:=hs.ev hm;rw[he] at d;have v:=d.ft.1;have k:=(hs.BR hb).1;refine⟨.tuple #[],G,_,?_,hs.iu ⟨[],x.c,[]⟩ hb (λq n=>by cases n),.tup [] [] rfl λj i=>by cases i⟩
 unfold execOp;simp[g,resolve,invoke,builtin,Builtin.clear_,v,run_underlying l,bt k rfl,da k]
theorem D0{s:St}{o:Oper}{t:TypeId}{m k:Operand}(f:o.op=.lookup t m k false){a b:Opd}(hm:opd m=some a)(hk:opd k=some b){kt d:TypeId}{ik:IntKind}(e:P.underlying t=some (.map kt d))(c:P.underlying kt=some (.int ik)){K:St->Prop}
  (h:tbK .Ic [s.ev a,s.ev b] s o.dst K):OpS P o s K:=h.elim
theorem DY{s:St}{o:Oper}{t:TypeId}{m k v:Operand}(i:o.op=.mapUpdate t m k v)(d:o.dst=none){a b rv:Opd}(hm:opd m=some a)(hk:opd k=some b)(f:opd v=some rv){kt e:TypeId}{ik:IntKind}(g:P.underlying t=some (.map kt e))(c:P.underlying kt=some (.int ik)){K:St->Prop}
  (h:tbK .HQ [s.ev a,s.ev b,s.ev rv] s o.dst K):OpS P o s K:=h.elim
theorem DZ{s:St}{o:Oper}{x:Operand}{t:Nat}(d:o.op=.call {callee:=.builtin .len,args:=#[x],argTypes:=#[t]}){rx:Opd}(b:opd x=some rx){kt a:TypeId}(c:P.underlying t=some (.map kt a)){K:St->Prop}(h:tbK .H3 [s.ev rx] s o.dst K):OpS P o s K:=h.elim
end
inductive Eff where
 |oP (z:Nat)
 |sq (z:Nat)
 |slN
 |mkM
 |BX
 |getM (ok:Bool) (zx:AV)
 |mkB (z:Nat) (zx:AV)
 |A5 (neg:Bool)
 |N4 (zx:AV)
 |Nc
 |bsR (z:Nat)
 |Nl (ks:List FK)
 |NY (ks:List FK) (ok:Bool) (zx:AV)
 |tab (e:TbE)
deriving Inhabited
def Mc(s:St)(d:Option Nat)(K:St->Prop):Prop:=K (St.put ⟨s.env,s.bs++[.mp []],s.lo⟩ d (.mpt s.bs.length))
def Eu(x n:AV)(s:St)(d:Option Nat)(K:St->Prop):Prop:=
 match x,n with
 |.sl .full [],.int _ n=>n=0/\K (s.put d (.sl .full []))
 |_,_=>False
def sf(e:Eff)(ab:List AV)(s:St)(d:Option Nat)(K:St->Prop):Prop:=
 match e,ab with
 |.oP z,[x,y]=>oP z s x y λr a=>K (a.put d r)
 |.sq z,[x,y]=>sq z s x y λr a=>K (a.put d r)
 |.slN,[x,n]=>Eu x n s d K
 |.mkM,[]=>Mc s d K
 |.mkM,[.int _ _]=>Mc s d K
 |.BX,[m,k,v]=>ue s m k v K
 |.getM ok f,[m,k]=>vK ok f s m k λr=>K (s.put d r)
 |.mkB z f,[l,c]=>mkB z f s l c λr a=>K (a.put d r)
 |.N4 f,[m,k]=>KX f s m k λr a=>K (a.put d r)
 |.Nc,[m,j,v]=>Jq s m j v K
 |.bsR z,ab=>ME z ab s λr a=>K (a.put d r)
 |.A5 neg,[.sl _ l]=>(l≠[]->K (s.put d (.bool (bY neg false))))/\(l=[]->∀b,K (s.put d (.bool (bY neg b))))
 |.Nl g,[m,k,v]=>Jy g s m k v K
 |.NY g ok f,[m,k]=>KD g ok f s m k λr=>K (s.put d r)
 |.tab e,ab=>tbK e ab s d K
 |_,_=>False
theorem sd{z:Nat}{bs:List Box}{y:AV}{K K':Nat->List AV->Prop}(hk:∀n ys,K n ys->K' n ys)(h:se z bs y K):se z bs y K':=by
 obtain⟨n,ys,a,c⟩:=GZ h;unfold se at a|-;split at a
 .obtain ⟨b,rfl,rfl⟩:=a;exact⟨b,hk _ _ c⟩
 .split at a
  .obtain ⟨b,rfl,rfl⟩:=a;exact⟨b,hk _ _ c⟩
  .exact a.elim
 .exact a.elim
theorem ig{bs:List Box}{x:AV}{K K':Nat->Nat->List AV->Option Nat->Prop}(hk:∀m k cs ob,K m k cs ob->K' m k cs ob)(h:pY bs x K):pY bs x K':=by
 unfold pY at h|-;split at h
 .exact hk _ _ _ _ h
 .split at h
  .exact hk _ _ _ _ h
  .exact h
 .exact h
theorem Ip{e:Eff}{ab:List AV}{s:St}{d:Option Nat}{K K':St->Prop}(hk:∀s,K s->K' s)(h:sf e ab s d K):sf e ab s d K':=by
 unfold sf at h|-;split at h
 .exact ig (λm k cs ob h=>sd (λn ys h=>⟨h.1,λk' a=>hk _ (h.2 k' a)⟩) h) h
 .unfold sq at h|-;split at h
  .exact ig (λm k cs ob h=>⟨h.1,λk' a=>hk _ (h.2 k' a)⟩) h
  .exact h
 .unfold Eu at h|-;split at h
  .exact ⟨h.1,hk _ h.2⟩
  .exact h
 .exact hk _ h
 .exact hk _ h
 .unfold ue at h|-;split at h
  .split at h
   .exact ⟨h.1,hk _ h.2⟩
   .exact ⟨h.1,hk _ h.2⟩
   .exact h
  .exact h
 .unfold vK at h|-;split at h
  .split at h
   .split at h
    .exact ⟨h.1,hk _ h.2⟩
    .exact hk _ h
   .split at h
    .exact ⟨h.1,hk _ h.2⟩
    .exact hk _ h
   .exact h
  .exact hk _ h
  .exact h
 .unfold mkB at h|-;split at h
  .exact ⟨h.1,hk _ h.2⟩
  .exact h
 .exact h.elim
 .exact h.elim
 .exact ⟨h.1,hk _ h.2⟩
 .exact ⟨λe=>hk _ (h.1 e),λe b=>hk _ (h.2 e b)⟩
 .exact h.elim
 .exact h.elim
 .exact Ji hk h
 .exact h
end
end Go.AM
