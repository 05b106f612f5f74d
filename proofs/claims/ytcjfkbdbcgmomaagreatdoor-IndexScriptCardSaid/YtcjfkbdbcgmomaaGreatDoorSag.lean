/-
  Texts of this aV joined (wip/gen/bundle.py),those declarations only that are needed:AmE. By an AI agent.
-/
import Derived.Test.YtcjfkbdbcgmomaaGreatDoorSaf
set_option linter.unusedSimpArgs false
set_option linter.unusedVariables false
namespace Go.AM
open Go.CK Go.RowKit
theorem OpS.ex{P:Program}{o:Oper}{s:St}{K:St->Prop}{ι:Type}(C:ι->Prop)(x:ι->AV)(s':ι->St)(hd:∀c,o.op≠.defer c)(hK:∀i,C i->K ((s' i).put o.dst (x i)))
  (h:∀E G a w,RS E G s a w->∃i v G' w',C i/\(execOp a.eval o).run P w=.ok (.value v) w'/\RS E G' (s' i) a w'/\RV G'.M G'.σ (s' i).bs.length (x i) v):OpS P o s K:=by
 intro E G a w rd n next Q hs hdst hnext
 obtain⟨i,v,G',w',hC,h1,h2,h3⟩:=h E G a w hs;refine⟨λ_ _=>trivial,?_⟩;rw[Oper.semAt_eq _ _ _ hd,h1];exact hnext _ G' _ w' (hK i hC) (h2.Kk hdst h3) (put_defers _ _ _)
def cellsOf:List AV->List AV
 |[]=>[]
 |x::l=>x.cells++cellsOf l
theorem bq{z:Nat}:∀{l:List AV},(∀y∈l,y.cells.length=z)->(cellsOf l).length=l.length*z
 |[],_=>by simp[cellsOf]
 |x::l,h=>by
  rw[cellsOf,zC,h x (by simp),bq λy hy=>h y (by simp[hy]),zY,Nat.succ_mul,Nat.add_comm]
theorem jv{z:Nat}:∀{l:List AV},(∀y∈l,y.cells.length=z)->∀(i:Nat) (hi:i<l.length) (j:Nat),j<z->(cellsOf l)[i*z+j]? =(l[i].cells)[j]?
 |[],_,i,hi,_,_=>by cases hi
 |x::l,h,0,_,j,hj=>by
  have hx:=h x (by simp)
  simp only[cellsOf,Nat.zero_mul,ZJ,ZS]
  rw[zK (by omega)]
 |x::l,h,i+1,hi,j,hj=>by
  have hx:=h x (by simp)
  simp only[cellsOf,Zj];rw[za (by rw[hx,Nat.succ_mul];omega),hx,show (i+1)*z+j-z=i*z+j by rw[Nat.succ_mul];omega]
  exact jv (λy hy=>h y (by simp[hy])) i (by simpa using hi) j hj
theorem i6:∀(l m:List AV),cellsOf (l++m)=cellsOf l++cellsOf m
 |[],m=>rfl
 |x::l,m=>by rw[zf,cellsOf,cellsOf,i6 l m,zh]
theorem fh.at_{M:Hp}{z:Nat}{l:List AV}{us:List Value}(h:fh M z l us)(j:Nat)(hj:j<(cellsOf l).length)(u:Value)(hu:us[j]? =some u):FV M (cellsOf l)[j] u:=by
 have hz:∀y∈l,y.cells.length=z:=λy hy=>by
  obtain⟨i,hi,rfl⟩:=Zc.1 hy;exact(h.2 i hi).1
 have hl:=bq hz
 have hz0:0<z:=by
  rcases Nat.eq_zero_or_pos z with h0|h0
  .subst h0;omega
  .exact h0
 have hi:j/z<l.length:=(Zu hz0).2 (by omega)
 have hr:=yX j hz0;have he:j/z*z+j %z=j:=by have:=yK j z;rw[yT] at this;exact this
 obtain⟨a1,a2⟩:=h.2 _ hi;obtain⟨u',b1,_,b3⟩:=a2 (j %z) (by omega)
 rw[he,hu] at b1;cases b1;have hg:=jv hz (j/z) hi (j %z) hr;rw[he,zA hj,zA (by omega)] at hg
 simp only[zO] at hg;rw[hg];exact b3
section
variable{E:Entry}{G:Gh}{s:St}{a:Act}{w:World}
theorem FW{w:World}{B:Nat}{o:Obj}(h:w.heap[B]? =some o)(hk:o.isCells=false)(i:Nat):w.cell? ⟨B,i,none⟩=none:=by
 simp only[World.cell?,h];cases o<;>first|rfl|cases hk
theorem RS.E6(h:RS E G s a w){B:Nat}{o:Obj}(o':Obj)(ho:w.heap[B]? =some o)(hk:o.isCells=false)(hm:E.FP B\/E.w.heap.size<=B){bs':List Box}{ds':List Deferred}(hlen:bs'.length=s.bs.length)(hbc:∀b,aa bs' b=aa s.bs b)
  (hsp:Sp E.FP E.w G.M G.σ G.cl bs' ds' E.dd (w.putObj B o')):RS E G ⟨s.env,bs',s.lo⟩ ⟨a.tmps,ds'⟩ (w.putObj B o'):=by
 have hother:∀k,k≠B->(w.putObj B o').heap[k]? =w.heap[k]?:=λk hk=>World.putObj_heap_other hk;have hsize:(w.putObj B o').heap.size=w.heap.size:=World.putObj_size
 have hat:∀p,(⟨s.env,bs',s.lo⟩:St).at p=s.at p:=λp=>by
  cases p with
  |sl t=>rfl
  |bx b j=>simp only[St.at,hbc]
 have hcells:∀B' vs T c,w.heap[B']? =some (.cells vs T c)->B'≠B:=λB' vs T c hc e=>by
  subst e;rw[ho] at hc;cases hc;cases hk
 have hbox:∀b cs,aa s.bs b=some cs->G.σ b≠B:=λb cs hb=>by
  obtain⟨vs,T,h1,_⟩:=h.box b cs hb;exact hcells _ _ _ _ h1
 have hval:∀p x,s.at p=some x->aw G.σ ⟨a.tmps,ds'⟩ (w.putObj B o') p=aw G.σ a w p:=λp x hp=>by
  cases p with
  |sl t=>rfl
  |bx b j=>
   simp only[St.at] at hp
   cases hb:aa s.bs b with
   |none=>rw[hb] at hp;cases hp
   |some cs=>simp only[aw];rw[bD (hother _ (hbox b cs hb))]
 refine⟨⟨h.fr.os,h.fr.tape,h.fr.output,by rw[hsize];exact h.fr.size,h.fr.le,λB' hB' hn=>?_,h.fr.mem,h.fr.kn.keep (hother _ (h.fr.kn.neO ho hk))⟩,λb i v hv=>?_,h.nt,λp x hp=>?_,λb j x hp=>?_,λb cs hb=>?_,λb cs hb=>?_,λb b' cs cs' hb hb' e=>?_,λp z l hp=>?_,h.clinj,λp B' hB' b cs hb=>?_,λp B' hB'=>by rw[hsize];exact h.cllt p B' hB',h.lo,by simp only[hlen];exact h.len,h.sig,hsp⟩
 .have:B'≠B:=λe=>by
   subst e;rcases hm with h1|h1
   .exact hn h1
   .omega
  rw[hother B' this];exact h.fr.heap B' hB' hn
 .have h1:=h.ok b i v hv
  have:b≠B:=λe=>by
   subst e;have:=FW ho hk i;simp only[Hp.of] at h1;rw[this] at h1;cases h1
  simp only[Hp.of] at h1|-;rw[bD (hother b this)];exact h1
 .rw [hat] at hp;rw[hval p x hp,hlen];exact h.val p x hp
 .rw [hat] at hp;rw[hval _ x hp];exact h.one b j x hp
 .rw [hbc] at hb;obtain⟨vs,T,h1,h2⟩:=h.box b cs hb;exact⟨vs,T,by rw[hother _ (hbox b cs hb)];exact h1,h2⟩
 .rw [hbc] at hb;exact h.bmem b cs hb
 .rw [hbc] at hb hb';exact h.inj b b' cs cs' hb hb' e
 .rw [hat] at hp;obtain⟨ad,k,h1,h2,h3⟩:=h.own p z l hp;refine⟨ad,k,by rw[hval p _ hp];exact h1,h2,?_⟩
  rcases h3 with h3|⟨B',hB',h4,h5⟩
  .exact .inl h3
  .obtain ⟨vs,T,h6,h7⟩:=h5.cells;exact .inr ⟨B',hB',h4,h5.lt,⟨vs,T,by rw[hother B' (hcells _ _ _ _ h6)];exact h6,h7⟩,h5.free,h5.mine⟩
 .rw [hbc] at hb;exact h.clbox p B' hB' b cs hb
end
theorem bm{bs:List Box}{b:Nat}(c:Nat):aa (bs.set b .dead) c=if c=b then none else aa bs c:=by
 simp only[aa,zr]
 by_cases e:b=c
 .subst e
  by_cases hb:b<bs.length
  .simp [hb,Box.cs?]
  .simp [hb]
 .rw [if_neg e,if_neg (λk=>e k.symm)]
theorem eW{bs:List Box}{b c:Nat}{x:LB}(h:ag (bs.set b .dead) c=some x):ag bs c=some x:=by
 by_cases e:b=c
 .subst e
  by_cases hb:b<bs.length
  .simp [ag,hb,Box.lb?] at h
  .simp [ag,hb] at h
 .simp only[ag,zr,if_neg e] at h;exact h
def rowAt(bs:List Box)(b:Nat):Option (List AV):=match bs[b]? with
 |some (.row cs)=>some cs
 |some (.cells cs)=>some cs
 |_=>none
theorem da{bs:List Box}{b:Nat}{cs:List AV}(h:rowAt bs b=some cs)(h0:cs≠[]):aa bs b=some cs:=by
 unfold rowAt at h;unfold aa;split at h
 .rename_i ds e;cases h;rw[e];simp[fi,h0]
 .rename_i ds e;cases h;rw[e];rfl
 .cases h
section
variable{E:Entry}{G:Gh}{s:St}{a:Act}{w:World}
theorem RS.reb(h:RS E G s a w){bs':List Box}{σ':Nat->Nat}(f:Nat->Nat)(hlen:s.bs.length<=bs'.length)(hσ:∀b,b<s.bs.length->σ' b=G.σ b)(hl:∀b x,ag bs' b=some x->ag s.bs b=some x)
  (hb:∀b cs',aa bs' b=some cs'->∃cs,aa s.bs (f b)=some cs/\σ' b=G.σ (f b)/\cs'.length<=cs.length/\∀(j:Nat) (x:AV),cs'[j]? =some x->x=.top\/(cs[j]? =some x/\(f b=b\/x.aG=x)))
  (hf:∀b b' cs cs',aa bs' b=some cs->aa bs' b'=some cs'->f b=f b'->b=b'):RS E {G with σ:=σ'} ⟨s.env,bs',s.lo⟩ a w:=by
 have hat:∀b j x,(⟨s.env,bs',s.lo⟩:St).at (.bx b j)=some x->∃y,s.at (.bx (f b) j)=some y/\σ' b=G.σ (f b)/\(x=.top\/(y=x/\(f b=b\/x.aG=x))):=λb j x hx=>by
  simp only[St.at] at hx
  cases hbc:aa bs' b with
  |none=>rw[hbc] at hx;cases hx
  |some cs'=>
   rw[hbc] at hx;simp only[ZH] at hx;obtain⟨cs,h1,h2,h3,h4⟩:=hb b cs' hbc;have hj:j<cs.length:=ZV (zB.1 hx).1 h3;refine⟨cs[j],by simp only[St.at,h1,ZH];exact zA hj,h2,?_⟩
   rcases h4 j x hx with e|⟨e,e2⟩
   .exact .inl e
   .refine .inr ⟨?_,e2⟩;rw[zA hj] at e;exact yN e
 have hva:∀b j,σ' b=G.σ (f b)->aw σ' a w (.bx b j)=aw G.σ a w (.bx (f b) j):=λb j e=>by simp only[aw,e]
 refine⟨h.fr,h.ok,h.nt,λp x hp=>?_,λb j x hp=>?_,λb cs' hc=>?_,λb cs' hc=>?_,λb b' cs cs' hc hc' e=>?_,λp z l hp=>?_,h.clinj,λp B hB b cs' hc=>?_,h.cllt,h.lo,ZP h.len hlen,λb hb'=>(hσ b (ZV hb' h.len)).trans (h.sig b hb'),h.sp.step (Hp.le_refl _) hσ hl (λ_ _ k _=>k) (λ_ _ _ _ p k=>⟨p,k⟩) (λ_ k=>k)⟩
 .cases p with
  |sl t=>exact(h.val (.sl t) x hp).mono (Hp.le_refl _) hlen hσ
  |bx b j=>
   obtain⟨y,h1,h2,h3⟩:=hat b j x hp;show RV G.M σ' _ _ (aw σ' a w (.bx b j));rw[hva b j h2];rcases h3 with rfl|⟨rfl,_⟩
   .exact .flat (.top _)
   .exact (h.val _ _ h1).mono (Hp.le_refl _) hlen hσ
 .obtain ⟨y,h1,h2,_⟩:=hat b j x hp;show (aw σ' a w (.bx b j)).oneCell'=true;rw[hva b j h2];exact h.one _ _ _ h1
 .obtain ⟨cs,h1,h2,h3,_⟩:=hb b cs' hc;obtain⟨vs,T,h4,h5⟩:=h.box _ cs h1;exact⟨vs,T,by show w.heap[σ' b]? =_;rw[h2];exact h4,by omega⟩
 .obtain ⟨cs,h1,h2,h3,_⟩:=hb b cs' hc;show (∀o,G.M (σ' b) o=none)/\(E.FP (σ' b)\/E.w.heap.size<=σ' b);rw[h2];exact h.bmem _ cs h1
 .obtain ⟨ds,h1,h2,_⟩:=hb b cs hc;obtain⟨ds',h1',h2',_⟩:=hb b' cs' hc';have e:σ' b=σ' b':=e;rw[h2,h2'] at e;exact hf b b' cs cs' hc hc' (h.inj _ _ ds ds' h1 h1' e)
 .cases p with
  |sl t=>exact h.own (.sl t) z l hp
  |bx b j=>
   obtain⟨y,h1,h2,h3⟩:=hat b j _ hp;rcases h3 with e|⟨rfl,e|e⟩
   .cases e
   .show∃ad k,aw σ' a w (.bx b j)=_/\_;rw[hva b j h2,e];rw[e] at h1;exact h.own _ z l h1
   .simp [AV.aG] at e
 .obtain ⟨cs,h1,h2,_⟩:=hb b cs' hc;show σ' b≠B;rw[h2];exact h.clbox p B hB _ cs h1
end
def o6(z:Nat)(bs:List Box)(y:AV)(K:Nat->List AV->Prop):Prop:=
 match y with
 |.sl _ xs=>(∀y∈xs,y.cells.length=z)/\K xs.length (cellsOf xs)
 |.bsl b m _=>match rowAt bs b with
  |some cs=>(m*z<=cs.length/\∀x∈cs.take (m*z),x.aG=x)/\K m (cs.take (m*z))
  |none=>False
 |_=>False
def qj(bs:List Box)(x:AV)(K:Nat->Nat->List AV->Option Nat->Prop):Prop:=
 match x with
 |.sl .full []=>K 0 0 [] none
 |.bsl b m k=>match rowAt bs b with
  |some cs=>K m k cs (some b)
  |none=>False
 |_=>False
def gm(bs:List Box):Option Nat->List Box
 |none=>bs
 |some b=>bs.set b .dead
def sk(z:Nat)(s:St)(x y:AV)(K:AV->St->Prop):Prop:=
 qj s.bs x λm k cs ob=>o6 z s.bs y λn ys=>(0<z/\k*z<=cs.length/\m+n<=4294967296/\∀x∈cs.take (m*z),x.aG=x)/\
  ∀k',m+n<=k'->K (.bsl s.bs.length (m+n) k') ⟨s.env,gm s.bs ob++[.row (cs.take (m*z)++(ys++List.replicate ((k'-(m+n))*z) .top))],s.lo⟩
theorem EF{z:Nat}{bs:List Box}{y:AV}{K:Nat->List AV->Prop}(h:o6 z bs y K):∃n ys,o6 z bs y (λn' ys'=>n'=n/\ys'=ys)/\K n ys:=by
 unfold o6 at h|-;split at h
 .exact ⟨_,_,⟨h.1,rfl,rfl⟩,h.2⟩
 .rename_i b m k;split at h
  .rename_i cs e;exact⟨m,cs.take (m*z),⟨h.1,rfl,rfl⟩,h.2⟩
  .exact h.elim
 .exact h.elim
theorem D9{bs:List Box}{x:AV}{K:Nat->Nat->List AV->Option Nat->Prop}(h:qj bs x K):∃m k cs ob,qj bs x (λm' k' cs' ob'=>m'=m/\k'=k/\cs'=cs/\ob'=ob)/\K m k cs ob:=by
 unfold qj at h|-;split at h
 .exact ⟨_,_,_,_,⟨rfl,rfl,rfl,rfl⟩,h⟩
 .rename_i b m k;split at h
  .rename_i cs e;exact⟨m,k,cs,some b,⟨rfl,rfl,rfl,rfl⟩,h⟩
  .exact h.elim
 .exact h.elim
section
variable{E:Entry}{G:Gh}{s:St}{a:Act}{w:World}{P:Program}
theorem RS.els(hs:RS E G s a w){y:AV}{v:Value}(hv:RV G.M G.σ s.bs.length y v){z n:Nat}{ys:List AV}(h:o6 z s.bs y (λn' ys'=>n'=n/\ys'=ys)):
  ys.length=n*z/\∃(xa:Option Addr) (c B off:Nat) (us:List Value),v=.slice xa n c/\us.length=n*z/\(∀u∈us,u.oneCell'=true)/\(∀j (hj:j<ys.length) u,us[j]? =some u->RV G.M G.σ s.bs.length ys[j] u)/\(n≠0->xa=some ⟨B,off,none⟩)/\∀j u,us[j]? =some u->w.cell? ⟨B,off+j,none⟩=some u:=by
 unfold o6 at h;split at h
 .rename_i oc xs;obtain⟨hz,rfl,rfl⟩:=h;obtain⟨ad,k,B,off,hsv⟩:=hv.sv hz;obtain⟨us,u1,u2,u3⟩:=hsv.row hs.ok;exact⟨bq hz,ad,k,B,off,us,hsv.eq,u1.1,u2,λj hj u hu=>.flat (u1.at_ j hj u hu),λh0=>hsv.at_ (λe=>h0 (by simp[e])),u3⟩
 .rename_i b m k;split at h
  .rename_i cs e;obtain⟨⟨h1,h2⟩,rfl,rfl⟩:=h;obtain⟨ad,hv1,hb,hmk,hml,had⟩:=hv.cd;have hlen:(cs.take (m*z)).length=m*z:=by simp[h1]
   by_cases h0:cs=[]
   .subst h0;simp only[ZR,Nat.le_zero] at h1;exact⟨by simp[h1],ad,k,G.σ b,0,[],hv1,by simp[h1],by simp,λj hj=>by simp at hj,λhn=>had (by omega),by simp⟩
   .have hbc:=da e h0;obtain⟨vs,T,c1,c2⟩:=hs.box b cs hbc
    have hget:∀j u,((vs.toList.take (m*z))[j]? =some u)->j<m*z/\w.cell? ⟨G.σ b,j,none⟩=some u:=λj u hu=>by
     have hj:j<m*z:=by
      rcases zu j (m*z) with h3|h3
      .exact h3
      .rw [Zd,if_neg (by omega)] at hu;cases hu
     rw[Zd,if_pos hj] at hu;refine⟨hj,?_⟩;simp only[World.cell?,c1];simpa using hu
    refine⟨hlen,ad,k,G.σ b,0,vs.toList.take (m*z),hv1,by simp;omega,λu hu=>?_,λj hj u hu=>?_,λhn=>had (by omega),λj u hu=>by rw[ZJ];exact(hget j u hu).2⟩
    .obtain ⟨j,hj,rfl⟩:=Zc.1 hu;obtain⟨h3,h4⟩:=hget j _ (zA hj);obtain⟨u',h5,h6,_⟩:=hs.si hbc j (by omega)
     rw[h4] at h5;cases h5;exact h6
    .obtain ⟨h3,h4⟩:=hget j _ hu;obtain⟨u',h5,_,h6⟩:=hs.si hbc j (by omega)
     rw[h4] at h5;cases h5;rw[Zs]
     have:=h2 cs[j] (by
      rw[Zc];exact⟨j,by rw[hlen];exact h3,by rw[Zs]⟩)
     rw[<-this];exact h6
  .exact h.elim
 .exact h.elim
theorem vt{bs:List Box}(ob:Option Nat)(c:Nat):aa (gm bs ob) c=if ob=some c then none else aa bs c:=by
 cases ob with
 |none=>simp[gm]
 |some b=>
  simp only[gm,bm,zO]
  by_cases e:c=b
  .rw [if_pos e,if_pos e.symm]
  .rw [if_neg e,if_neg (λx=>e x.symm)]
theorem fA(bs:List Box)(ob:Option Nat):(gm bs ob).length=bs.length:=by cases ob<;>simp[gm]
theorem vr{bs:List Box}{ob:Option Nat}{c:Nat}{x:LB}(h:ag (gm bs ob) c=some x):ag bs c=some x:=by
 cases ob with
 |none=>exact h
 |some b=>exact eW h
theorem rA(hs:RS E G s a w){e z:Nat}{zv:Value}{zx:AV}(hzs:zv.cells.size=z)(hzx:cH zv=some zx)(hok:aW zx=true){x:AV}{v:Value}(hv:RV G.M G.σ s.bs.length x v)
  {m k n:Nat} {cs ys:List AV} {ob:Option Nat} (hx:qj s.bs x (λm' k' cs' ob'=>m'=m/\k'=k/\cs'=cs/\ob'=ob)) (hz:0<z) (hkz:k*z<=cs.length) (hlim:m+n<=glim) (hde:∀x∈cs.take (m*z),x.aG=x)
  {us:List Value} (hyl:ys.length=n*z) (u1:us.length=n*z) (u2:∀u∈us,u.oneCell'=true) (u3:∀j (hj:j<ys.length) u,us[j]? =some u->RV G.M G.σ s.bs.length ys[j] u) {X:Sem (Array Value)} (hX:X.run P w=.ok us.toArray w) (hX':X.run P w.drew=.ok us.toArray w.drew) {run:Result Value}
  (hun:∀ad,v=.slice ad m k->run=if m+n<=k then (X.run P w).andThen λnew w1=>
     ((match ad with|some a=>storeCells (a.add (m*z)) new.toList|none=>Pure.pure ():Sem Unit).run P w1).andThen λ_ w2=>.ok (.slice ad (m+n) k) w2
   else ((Builtin.firstCells z m (.slice ad m k)).run P w.drew).andThen λold w1=>(X.run P w1).andThen λnew w2=>
    .ok (.slice (some ⟨w2.heap.size,0,none⟩) (m+n) (grownCap w (m+n) k e)) (w2.alloc (.cells (old++new++Builtin.zeroCells zv.cells (grownCap w (m+n) k e-(m+n))) e))):
  ∃k' v' G' w',m+n<=k'/\run=.ok v' w'/\RS E G' ⟨s.env,gm s.bs ob++[.row (cs.take (m*z)++(ys++List.replicate ((k'-(m+n))*z) .top))],s.lo⟩ a w'/\RV G'.M G'.σ (s.bs.length+1) (.bsl s.bs.length (m+n) k') v':=by
 have hsrc:∃ad,v=.slice ad m k/\m<=k/\(k≠0->∃b,ob=some b/\ad=some ⟨G.σ b,0,none⟩/\aa s.bs b=some cs):=by
  unfold qj at hx;split at hx
  .obtain ⟨rfl,rfl,rfl,rfl⟩:=hx;obtain⟨ad,kk,B,off,sz,h1,_,_,_,h2,_⟩:=hv.cq;have:=h2 rfl;subst this;exact⟨ad,h1,zG _,λh=>absurd rfl h⟩
  .split at hx
   .rename_i b m' k' _ cs' hr;obtain⟨rfl,rfl,rfl,rfl⟩:=hx;obtain⟨ad,h1,h2,h3,h4,h5⟩:=hv.cd;refine⟨ad,h1,h3,λh0=>⟨b,rfl,h5 h0,da hr (λe=>?_)⟩⟩;subst e;have:0<k'*z:=Nat.mul_pos (by omega) hz
    simp only[ZR] at hkz;omega
   .exact hx.elim
  .exact hx.elim
 obtain⟨ad,rfl,hmk,hsrc⟩:=hsrc;have hmz:m*z<=cs.length:=ZP (ZF _ hmk) hkz;rw[hun ad rfl];have hblt:∀b cs,aa s.bs b=some cs->b<s.bs.length:=λb cs h=>aB h
 have hnew:∀c ds cs2,aa (gm s.bs ob++[.row cs2]) c=some ds->(c=s.bs.length/\ds=cs2/\cs2≠[])\/(c<s.bs.length/\ob≠some c/\aa s.bs c=some ds):=λc ds cs2 h=>by
  rw[al,fA] at h
  by_cases ec:c=s.bs.length
  .rw [if_pos ec,fi] at h;split at h
   .cases h
   .rename_i h0;cases h;exact .inl ⟨ec,rfl,h0⟩
  .rw [if_neg ec,vt] at h;split at h
   .cases h
   .rename_i h0;exact .inr ⟨hblt _ _ h,h0,h⟩
 have hloop:∀(cs2:List AV) b x,ag (gm s.bs ob++[.row cs2]) b=some x->ag s.bs b=some x:=λcs2 b x h=>vr (dq rfl h)
 by_cases hfit:m+n<=k
 .rw [if_pos hfit,hX];simp only[yZ]
  by_cases hk0:k=0
  .subst hk0;obtain rfl:m=0:=by omega
   obtain rfl:n=0:=by omega
   have hus:us=[]:=zL (by simpa using u1)
   have hysn:ys=[]:=zL (by simpa using hyl)
   subst hus hysn;refine⟨0,.slice ad 0 0,{G with σ:=G.σ},w,zG _,?_,?_,?_⟩
   .cases ad<;>simp[storeCells]
   .refine hs.reb id (by simp[fA]) (λ_ _=>rfl) (hloop _) (λb cs' hc=>?_) (λb b' _ _ _ _ e=>e)
    rcases hnew b cs' _ hc with ⟨_,_,h0⟩|⟨h1,_,h3⟩
    .simp at h0
    .exact ⟨cs',h3,rfl,zG _,λj x hx=>.inr ⟨hx,.inl rfl⟩⟩
   .exact .bsl _ _ _ _ (by omega) (zG _) (by first|(unfold glim;omega)|(unfold lim;omega)) (λh=>absurd rfl h)
  .obtain ⟨b,hob,had,hbc⟩:=hsrc hk0;subst had;have hmn:m*z+n*z<=k*z:=by rw[<-ZN];exact ZF _ hfit
   obtain⟨w',h5,h6⟩:=c8 (P:=P) us ys s w b (m*z) 0 cs hs hbc (by rw[hyl];omega) (by rw[u1,hyl]) u2 u3
   have hlen1:(setAt cs (m*z+0) ys).length=cs.length:=aQ _ _ _;refine⟨k,.slice (some ⟨G.σ b,0,none⟩) (m+n) k,{G with σ:=λc=>if c=s.bs.length then G.σ b else G.σ c},w',hfit,?_,?_,?_⟩
   .simp only;rw[bN,ZJ,h5];rfl
   .refine h6.reb (λc=>if c=s.bs.length then b else c) (by simp[St.aF,fA]) (λc hc=>?_) (λc x hc=>?_) (λc cs' hc=>?_) (λc c' ds ds' hc hc' e=>?_)
    .simp only[St.aF,zn] at hc;rw[if_neg (by omega)]
    .have:=hloop _ c x hc;simp only[St.aF];simp only[ag,zr]
     by_cases eb:b=c
     .subst eb;simp only[ag] at this;simp only[aa] at hbc
      cases hq:s.bs[b]? with
      |none=>rw[hq] at hbc;cases hbc
      |some q=>
       rw[hq] at this hbc;cases q<;>first|(cases hbc;done)|(cases this;done)
     .rw [if_neg eb];exact this
    .rcases hnew c cs' _ hc with ⟨rfl,rfl,h0⟩|⟨h1,h2,h3⟩
     .simp only[if_true];refine⟨setAt cs (m*z+0) ys,by simp only[St.aF];rw[aS hbc,if_pos rfl],trivial,?_,λj x hx=>?_⟩
      .rw [hlen1];simp only[zC,zo,zg,hyl,Nat.sub_mul,ZN];omega
      .have hjlt:j<cs.length:=by
        have:=(zB.1 hx).1;simp only[zC,zo,zg,hyl,Nat.sub_mul,ZN] at this;omega
       rw[cR];simp only[Zi]
       by_cases hj1:j<m*z
       .rw [if_neg (by omega)]
        rw[zK (by simp;omega)] at hx
        refine .inr ⟨?_,.inr (hde x (zE hx))⟩;rw[Zd,if_pos hj1] at hx;exact hx
       .rw [za (by simp;omega)] at hx
        simp only[zo,yL hmz] at hx
        by_cases hj2:j-m*z<ys.length
        .rw [zK hj2] at hx;rw[if_pos (by omega)]
         have hx2:ys[j-m*z]'hj2=x:=by
          rw[zA hj2] at hx;exact yN hx
         refine .inr ⟨hx,.inr ?_⟩;have:=(u3 (j-m*z) hj2 _ (zA (by rw[u1,<-hyl];exact hj2))).cr
         rw[hx2] at this;exact this
        .rw [za (by omega)] at hx
         refine .inl ?_;exact(Zb.1 (zE hx)).2
     .have hcb:c≠b:=λe=>h2 (by rw[hob,e])
      simp only[show c≠s.bs.length by omega,if_false]
      refine⟨cs',by simp only[St.aF];rw[aS hbc,if_neg hcb];exact h3,trivial,zG _,λj x hx=>.inr ⟨hx,.inl trivial⟩⟩
    .rcases hnew c ds _ hc with ⟨rfl,_,_⟩|⟨h1,h2,h3⟩<;>rcases hnew c' ds' _ hc' with ⟨rfl,_,_⟩|⟨h1',h2',h3'⟩
     .rfl
     .rw [if_pos rfl,if_neg (by omega)] at e
      exact absurd (by rw[hob,e]) h2'
     .rw [if_pos rfl,if_neg (by omega)] at e
      exact absurd (by rw[hob,e]) h2
     .rw [if_neg (by omega),if_neg (by omega)] at e
      exact e
   .have:=RV.bsl (M:=G.M) (σ:=λc=>if c=s.bs.length then G.σ b else G.σ c) (n:=s.bs.length+1) s.bs.length (m+n) k (some ⟨G.σ b,0,none⟩) (by omega) hfit (by first|exact hlim|(unfold glim at hlim;first|(unfold glim;omega)|(unfold lim;omega))) (λ_=>by simp)
    exact this
 .rw [if_neg hfit];have hg:=grownCap_ge w (m+n) k e
  generalize hgc:grownCap w (m+n) k e=k' at*
  --the old cells
  have hold:∃os:List Value,os.length=m*z/\(∀u∈os,u.oneCell'=true)/\(∀(j:Nat) (hj:j<(cs.take (m*z)).length) u,os[j]? =some u->RV G.M G.σ s.bs.length (cs.take (m*z))[j] u)/\(Builtin.firstCells z m (.slice ad m k)).run P w.drew=.ok os.toArray w.drew:=by
   by_cases hm0:m=0
   .subst hm0;refine⟨[],by simp,by simp,λj hj=>by simp at hj,?_⟩
    exact bp (P:=P) (B:=0) (off:=0) w.drew (by simp) (λh=>absurd rfl h) (by simp)
   .obtain ⟨b,hob,had,hbc⟩:=hsrc (by omega)
    obtain⟨vs,T,c1,c2⟩:=hs.box b cs hbc
    have hget:∀(j:Nat) u,((vs.toList.take (m*z))[j]? =some u)->j<m*z/\w.cell? ⟨G.σ b,j,none⟩=some u:=λj u hu=>by
     have hj:j<m*z:=by
      rcases zu j (m*z) with h3|h3
      .exact h3
      .rw [Zd,if_neg (by omega)] at hu;cases hu
     rw[Zd,if_pos hj] at hu;refine⟨hj,?_⟩;simp only[World.cell?,c1];simpa using hu
    refine⟨vs.toList.take (m*z),by simp;omega,λu hu=>?_,λj hj u hu=>?_,?_⟩
    .obtain ⟨j,hj,rfl⟩:=Zc.1 hu;obtain⟨h3,h4⟩:=hget j _ (zA hj);obtain⟨u',h5,h6,_⟩:=hs.si hbc j (by omega)
     rw[h4] at h5;cases h5;exact h6
    .obtain ⟨h3,h4⟩:=hget j _ hu;obtain⟨u',h5,_,h6⟩:=hs.si hbc j (by omega)
     rw[h4] at h5;cases h5;have:=hde _ (zd hj);rw[Zs] at this|-;rw[<-this];exact h6
    .refine bp (P:=P) (B:=G.σ b) (off:=0) w.drew (by simp;omega) (λ_=>had) λj u hu=>?_
     rw[ZJ];exact(hget j u hu).2
  obtain⟨os,o1,o2,o3,o4⟩:=hold;rw[o4];simp only[yZ];rw[hX'];simp only[yZ];have hd:RS E G s a w.drew:=hs.drew;obtain⟨z1,z2,_⟩:=(RV.flat (σ:=λ_=>0) (n:=0) (dW (M:=G.M) hzx)).cells hok;have hzl:(Builtin.zeroCells zv.cells (k'-(m+n))).toList.length=(k'-(m+n))*z:=by rw[ZK,size_zeroCells,hzs]
  have h7:=hd.nV (.row (cs.take (m*z)++(ys++List.replicate ((k'-(m+n))*z) .top))) (cs.take (m*z)++(ys++List.replicate ((k'-(m+n))*z) .top)) rfl (λds e=>by
   rw[fi] at e;split at e
   .cases e
   .cases e;rfl) (os++(us++(Builtin.zeroCells zv.cells (k'-(m+n))).toList)) e (by
    simp only[zC,zo,zg,o1,u1,hyl,hzl];omega) (λu hu=>by
    rcases zZ.1 hu with h1|h1
    .exact o2 u h1
    .rcases zZ.1 h1 with h1|h1
     .exact u2 u h1
     .simp only[Builtin.zeroCells,Array.toList_map,zl] at h1;obtain⟨j,hj,rfl⟩:=h1;have hp:0<zv.cells.size:=by omega
      have hlt:j %zv.cells.size<zv.cells.size:=yX _ hp;have hm:=z2 (zv.cells[j %zv.cells.size]'hlt) (by simp)
      rw[getElem!_pos zv.cells _ hlt];exact hm) (λj hj u hu=>by
    by_cases hj1:j<(cs.take (m*z)).length
    .rw [zK (by rw[o1];simp at hj1;omega)] at hu
     rw[ZI hj1];exact o3 j hj1 u hu
    .have hlo:os.length=(cs.take (m*z)).length:=by rw[o1];simp[hmz]
     rw[za (by omega)] at hu
     rw[ZZ (by omega)]
     by_cases hj2:j-(cs.take (m*z)).length<ys.length
     .rw [ZI hj2];rw[zK (by rw[u1,<-hyl];omega)] at hu
      exact u3 _ hj2 u (by rw[<-hlo];exact hu)
     .rw [ZZ (by omega),Zw]
      exact .flat (.top _))
  refine⟨k',_,_,_,hg,rfl,(?_:RS E {G with σ:=λb=>if b=s.bs.length then w.drew.heap.size else G.σ b} _ a _),?_⟩
  .have h8:=h7.reb (bs':=gm s.bs ob++[.row (cs.take (m*z)++(ys++List.replicate ((k'-(m+n))*z) .top))]) (σ':=λb=>if b=s.bs.length then w.drew.heap.size else G.σ b) id (by simp[fA]) (λ_ _=>rfl) (λb x hb=>by
    have:=hloop _ b x hb;simp only[ag];rw[zK (aI this)]
    exact this) (λb cs' hc=>⟨cs',by
     rcases hnew b cs' _ hc with ⟨rfl,rfl,h0⟩|⟨h1,_,h3⟩
     .simp only[id];rw[al,if_pos rfl,fi,if_neg h0]
     .simp only[id];rw[al,if_neg (by omega)];exact h3,rfl,zG _,λj x hx=>.inr ⟨hx,.inl rfl⟩⟩) (λb b' _ _ _ _ e=>e)
   have hcells:(os.toArray++us.toArray++Builtin.zeroCells zv.cells (k'-(m+n)))=(os++(us++(Builtin.zeroCells zv.cells (k'-(m+n))).toList)).toArray:=by
    apply Array.ext';simp
   rw[hcells];exact h8
  .have:=RV.bsl (M:=G.M) (σ:=λb=>if b=s.bs.length then w.drew.heap.size else G.σ b) (n:=s.bs.length+1) s.bs.length (m+n) k' (some ⟨w.drew.heap.size,0,none⟩) (by omega) hg (by first|exact hlim|(unfold glim at hlim;first|(unfold glim;omega)|(unfold lim;omega))) (λ_=>by simp)
   exact this
theorem DO{s:St}{o:Oper}{x y:Operand}{t e z:Nat}(ho:o.op=.call {callee:=.builtin .append,args:=#[x,y],argTypes:=#[t,t]})(ht:P.underlying t=some (.slice e)){i:TypeInfo}{zv:Value}(hi:P.info? e=some i)(hzv:i.zero=some zv)(hsz:i.size=z)(hzs:zv.cells.size=z)(hb:i.bytes<=4096){zx:AV}(hzx:cH zv=some zx)(hok:aW zx=true)
  {rx ry:Opd} (hx:opd x=some rx) (hy:opd y=some ry) {K:St->Prop} (h:sk z s (s.ev rx) (s.ev ry) λr s'=>K (s'.put o.dst r)):OpS P o s K:=by
 have hd:∀c,o.op≠.defer c:=λc e=>by rw[ho] at e;cases e
 obtain⟨m,k,cs,ob,h1,h⟩:=D9 h;obtain⟨n,ys,h2,⟨hz,hkz,hlim,hde⟩,hK⟩:=EF h;refine OpS.ex (ι:=Nat) (λk'=>m+n<=k') (λk'=>.bsl s.bs.length (m+n) k') (λk'=>⟨s.env,gm s.bs ob++[.row (cs.take (m*z)++(ys++List.replicate ((k'-(m+n))*z) .top))],s.lo⟩) hd hK λE G a w hs=>?_;obtain⟨hyl,xa,c,Bx,offx,us,hvy,u1,u2,u3,u4,u5⟩:=hs.els (hs.ev hy) h2
 obtain⟨k',v',G',w',q1,q2,q3,q4⟩:=rA (P:=P) (e:=e) (X:=Builtin.firstCells z n (.slice xa n c)) (run:=(Builtin.append_ #[t,t] o.type #[a.eval x,a.eval y]).run P w) hs hzs hzx hok (hs.ev hx) h1 hz hkz (by first|(unfold glim;omega)|(unfold lim;omega)) hde hyl u1 u2 u3 (bp w u1 u4 u5) (bp w.drew u1 u4 (by simpa using u5))
  (λad hv=>by rw[hv,hvy,kr (P:=P) ht hi hzv hsz rfl o.type ad m k xa n c w (by first|(unfold glim;omega)|(unfold lim;omega)) hb];cases ad<;>rfl)
 refine⟨k',v',G',w',q1,?_,q3,by simpa[fA] using q4⟩
 rw[kf P _ o ho (.inl rfl)];simp only[q2,yZ]
theorem Cm{t u e sz bytes:Nat}{iu:IntKind}{i:TypeInfo}{z:Value}(ht:P.underlying t=some (.slice e))(hu:P.underlying u=some (.int iu))(hi:P.info? e=some i)(hz:i.zero=some z)(hsz:i.size=sz)(hzs:z.cells.size=sz)(hby:i.bytes=bytes)
  (ty:TypeId) (ad:Option Addr) (n k m:Nat) (ki:IntKind) (w:World) (hle:n+m<=glim) (hb:bytes<=4096):
  (Builtin.append_ #[t,u] ty #[.slice ad n k,.int ki m]).run P w=
   if n+m<=k then ((Pure.pure (Builtin.zeroCells z.cells m):Sem (Array Value)).run P w).andThen λnew w1=>
     ((match ad with|some a=>storeCells (a.add (n*sz)) new.toList|none=>Pure.pure ():Sem Unit).run P w1).andThen λ_ w2=>.ok (.slice ad (n+m) k) w2
   else ((Builtin.firstCells sz n (.slice ad n k)).run P w.drew).andThen λold w1=>((Pure.pure (Builtin.zeroCells z.cells m):Sem (Array Value)).run P w1).andThen λnew w2=>
    .ok (.slice (some ⟨w2.heap.size,0,none⟩) (n+m) (grownCap w (n+m) k e)) (w2.alloc (.cells (old++new++Builtin.zeroCells z.cells (grownCap w (n+m) k e-(n+m))) e)):=by
 subst hsz hby;have hwr:IntKind.i64.wrap (m:Int)=m:=wrap_i64 (by omega) (by ((try unfold glim at hle);(try unfold lim at hle));omega)
 have hbm:¬(281474976710656<(m:Int)*(i.bytes:Int)):=by
  have h4:(i.bytes:Int)<=4096:=by omega
  have h5:(m:Int)<=4294967296:=by ((try unfold glim at hle);(try unfold lim at hle));omega
  have:(m:Int)*(i.bytes:Int)<=4294967296*4096:=Int.mul_le_mul h5 h4 (by omega) (by omega)
  omega
 have hzc:m*i.size=0->Builtin.zeroCells z.cells m=#[]:=λh0=>by
  apply Array.eq_empty_of_size_eq_zero;rw[size_zeroCells,hzs,h0]
 have hneg:¬(m:Int)<0:=by omega
 by_cases h:n+m<=k
 .rw [if_pos h]
  by_cases h0:m*i.size=0
  .cases ad<;>simp[Builtin.append_,run_underlying ht,run_underlying hu,sizeOf,typeInfo,hi,asInt,asIntOf,hwr,hbm,hneg,h,h0,hzc h0]
  .cases ad<;>simp[Builtin.append_,run_underlying ht,run_underlying hu,sizeOf,typeInfo,hi,asInt,asIntOf,hwr,hbm,hneg,h,h0,zeroValue,hz]
 .rw [if_neg h];have h63':¬(9223372036854775807<((n:Int)+(m:Int))):=by ((try unfold glim at hle);(try unfold lim at hle));omega
  have h48':¬(281474976710656<Builtin.nextslicecap (n+m) k*i.bytes):=by
   have h1:=Nat.mul_le_mul hle hb;have:=growslice_fits (need:=n+m) (old:=k) (bytes:=i.bytes) (by omega) (by ((try unfold glim at h1);(try unfold lim at h1));omega)
   omega
  by_cases h0:m*i.size=0
  .simp [Builtin.append_,run_underlying ht,run_underlying hu,sizeOf,typeInfo,hi,asInt,asIntOf,hwr,hbm,hneg,zeroValue,hz,h,h63',h48',Question.forced,newRow,grownCap,hzc h0]
  .simp [Builtin.append_,run_underlying ht,run_underlying hu,sizeOf,typeInfo,hi,asInt,asIntOf,hwr,hbm,hneg,zeroValue,hz,h,h63',h48',Question.forced,newRow,grownCap,h0]
theorem xd{M:Hp}{σ:Nat->Nat}{nb:Nat}{x:AV}{v:Value}(hx:cH v=some x)(hok:aW x=true)(hflat:x.flat=true){z:Nat}(hz:v.cells.size=z)(n:Nat):
  (cellsOf (List.replicate n x)).length=n*z/\(Builtin.zeroCells v.cells n).toList.length=n*z/\(∀u∈(Builtin.zeroCells v.cells n).toList,u.oneCell'=true)/\
   ∀j (hj:j<(cellsOf (List.replicate n x)).length) u,(Builtin.zeroCells v.cells n).toList[j]? =some u->RV M σ nb (cellsOf (List.replicate n x))[j] u:=by
 obtain⟨us,h1,h2⟩:=fW (M:=M) hx hok hflat hz n n (zG _);have hl:(Builtin.zeroCells v.cells n).toList.length=n*z:=by rw[ZK,size_zeroCells,hz]
 have hul:us.length=n*z:=by rw[h1.1];simp
 have he:us=(Builtin.zeroCells v.cells n).toList:=by
  apply List.ext_getElem (by rw[hul,hl])
  intro j hj hj';have:=h2 j us[j] (zA hj);rw[<-hz] at this;have h3:(Builtin.zeroCells v.cells n)[j]? =some us[j]:=this;rw[zj (by rwa [ZK] at hj')] at h3
  simpa using(yN h3).symm
 obtain⟨c1,_,_⟩:=(RV.flat (σ:=σ) (n:=nb) (dW (M:=M) hx)).cells hok
 have hzs:∀y∈List.replicate n x,y.cells.length=z:=λy hy=>by
  rw[(Zb.1 hy).2,<-c1,ZK,hz]
 refine⟨by rw[bq hzs];simp,hl,λu hu=>?_,λj hj u hu=>.flat (h1.at_ j hj u (by rw[he];exact hu))⟩
 rw[<-he] at hu;obtain⟨j,hj,rfl⟩:=Zc.1 hu
 have hz0:0<z:=by
  rcases Nat.eq_zero_or_pos z with h0|h0
  .subst h0;omega
  .exact h0
 have hi:j/z<(List.replicate n x).length:=by simp;exact(Zu hz0).2 (by omega)
 obtain⟨a1,a2⟩:=h1.2 _ hi;obtain⟨u',b1,b2,_⟩:=a2 (j %z) (by rw[a1];exact yX _ hz0)
 have hjj:j/z*z+j %z=j:=by have:=yK j z;rw[yT] at this;exact this
 rw[hjj,zA hj] at b1;cases b1;exact b2
def uV(z:Nat)(s:St)(x y:AV)(K:AV->St->Prop):Prop:=
 match y with
 |.int _ q=>qj s.bs x λm k cs ob=>(0<z/\k*z<=cs.length/\(0<=q/\m+q.toNat<=4294967296)/\∀x∈cs.take (m*z),x.aG=x)/\
  ∀k',m+q.toNat<=k'->K (.bsl s.bs.length (m+q.toNat) k') ⟨s.env,gm s.bs ob++[.row (cs.take (m*z)++List.replicate ((k'-m)*z) .top)],s.lo⟩
 |_=>False
theorem DN{s:St}{o:Oper}{x y:Operand}{t u e z:Nat}{iu:IntKind}(ho:o.op=.call {callee:=.builtin .append,args:=#[x,y],argTypes:=#[t,u]})(ht:P.underlying t=some (.slice e))(hu:P.underlying u=some (.int iu)){i:TypeInfo}{zv:Value}(hi:P.info? e=some i)(hzv:i.zero=some zv)(hsz:i.size=z)(hzs:zv.cells.size=z)(hb:i.bytes<=4096){zx:AV}(hzx:cH zv=some zx)(hok:aW zx=true)(hflat:zx.flat=true)
  {rx ry:Opd} (hx:opd x=some rx) (hy:opd y=some ry) {K:St->Prop} (h:uV z s (s.ev rx) (s.ev ry) λr s'=>K (s'.put o.dst r)):OpS P o s K:=by
 have hd:∀c,o.op≠.defer c:=λc e=>by rw[ho] at e;cases e
 unfold uV at h;split at h
 .rename_i ki q hye;obtain⟨m,k,cs,ob,h1,⟨hz,hkz,⟨hq,hlim⟩,hde⟩,hK⟩:=D9 h;obtain⟨n,rfl⟩:∃n:Nat,q=n:=⟨q.toNat,by omega⟩
  simp only[Zq] at hlim hK;refine OpS.ex (ι:=Nat) (λk'=>m+n<=k') (λk'=>.bsl s.bs.length (m+n) k') (λk'=>⟨s.env,gm s.bs ob++[.row (cs.take (m*z)++List.replicate ((k'-m)*z) .top)],s.lo⟩) hd hK λE G a w hs=>?_;have hyv:=hs.ev hy;rw[hye] at hyv;have hyv:=hyv.aA;obtain⟨_,u1,u2,_⟩:=xd (M:=G.M) (σ:=G.σ) (nb:=s.bs.length) hzx hok hflat hzs n
  obtain⟨k',v',G',w',q1,q2,q3,q4⟩:=rA (P:=P) (e:=e) (X:=Pure.pure (Builtin.zeroCells zv.cells n)) (run:=(Builtin.append_ #[t,u] o.type #[a.eval x,a.eval y]).run P w) hs hzs hzx hok (hs.ev hx) (ys:=List.replicate (n*z) .top) h1 hz hkz (by first|(unfold glim;omega)|(unfold lim;omega)) hde (by simp) u1 u2 (λj hj u _=>by rw[Zw];exact .flat (.top _)) rfl rfl
   (λad hv=>by rw[hv,hyv,Cm (P:=P) ht hu hi hzv hsz hzs rfl o.type ad m k n ki w (by first|(unfold glim;omega)|(unfold lim;omega)) hb])
  rw[List.replicate_append_replicate,<-ZN,show n+(k'-(m+n))=k'-m by omega] at q3
  refine⟨k',v',G',w',q1,?_,q3,by simpa[fA] using q4⟩
  rw[kf P _ o ho (.inl rfl)];simp only[q2,yZ]
 .exact h.elim
def mkB(z:Nat)(zx:AV)(s:St)(l c:AV)(K:AV->St->Prop):Prop:=
 match l,c with
 |.int _ n,.int _ m=>(0<z/\0<=n/\n<=m/\m<=4294967296)/\K (.bsl s.bs.length n.toNat m.toNat) ⟨s.env,s.bs++[.row (cellsOf (List.replicate n.toNat zx)++List.replicate ((m.toNat-n.toNat)*z) .top)],s.lo⟩
 |_,_=>False
theorem Fq{s:St}{o:Oper}{t e:Nat}{lo co:Operand}(ho:o.op=.makeSlice t lo co){i:TypeInfo}{z:Value}{x:AV}{sz:Nat}(ht:P.underlying t=some (.slice e))(hi:P.info? e=some i)(hz:i.zero=some z)(hsz:i.size=sz)(hzs:z.cells.size=sz)(hb:i.bytes<=4096)
  (hx:cH z=some x) (hok:aW x=true) (hflat:x.flat=true) {rl rc:Opd} (hl:opd lo=some rl) (hc:opd co=some rc) {K:St->Prop} (h:mkB sz x s (s.ev rl) (s.ev rc) λr s'=>K (s'.put o.dst r)):OpS P o s K:=by
 have hd:∀c,o.op≠.defer c:=λc e=>by rw[ho] at e;cases e
 unfold mkB at h;split at h
 .rename_i kl n kc m hle hce;obtain⟨⟨hz0,h0,h1,h2⟩,hK⟩:=h;refine OpS.ex (ι:=Unit) (λ_=>True) (λ_=>.bsl s.bs.length n.toNat m.toNat) (λ_=>⟨s.env,s.bs++[.row (cellsOf (List.replicate n.toNat x)++List.replicate ((m.toNat-n.toNat)*sz) .top)],s.lo⟩) hd (λ_ _=>hK) λE G a w hs=>?_;have hlv:=hs.ev hl;rw[hle] at hlv;have hcv:=hs.ev hc;rw[hce] at hcv
  have hrun:(execOp a.eval o).run P w=.ok (.value (.slice (some ⟨w.heap.size,0,none⟩) n.toNat m.toNat)) (w.alloc (.cells ((Array.range (m.toNat*sz)).map λj=>z.cells[j %z.cells.size]!) e)):=by
   have hbm:(i.bytes:Int)*m<=281474976710656:=by
    have h4:(i.bytes:Int)<=4096:=by omega
    have:(i.bytes:Int)*m<=4096*4294967296:=Int.mul_le_mul h4 h2 (by omega) (by omega)
    omega
   have ha:IntKind.i64.wrap n=n:=wrap_i64 h0 (by omega)
   have hb':IntKind.i64.wrap m=m:=wrap_i64 (by omega) (by omega)
   have hm0:¬m<0:=by omega
   have hn0:¬n<0:=by omega
   have hnm:¬m<n:=by omega
   have hbm':¬281474976710656<(i.bytes:Int)*m:=by omega
   subst hsz;unfold execOp
   by_cases h5:m.toNat*i.size=0
   .simp [ho,Instr.makeSlice,run_underlying ht,hlv.aA,hcv.aA,asInt,asIntOf,typeInfo,hi,ha,hb',hm0,hn0,hnm,hbm',sizeOf,h5,newRow];rw[show Array.range 0=#[] from rfl];simp
   .simp [ho,Instr.makeSlice,run_underlying ht,hlv.aA,hcv.aA,asInt,asIntOf,typeInfo,hi,ha,hb',hm0,hn0,hnm,hbm',sizeOf,newRow,zeroValue,hz];exact λh6=>absurd h6 h5
  obtain⟨us,r1,r2⟩:=fW (M:=G.M) hx hok hflat hzs n.toNat m.toNat (by omega)
  obtain⟨c1,c2,_⟩:=(RV.flat (σ:=G.σ) (n:=s.bs.length) (dW (M:=G.M) hx)).cells hok
  have hzsr:∀y∈List.replicate n.toNat x,y.cells.length=sz:=λy hy=>by
   rw[(Zb.1 hy).2,<-c1,ZK,hzs]
  have hcl:=bq hzsr;rw[zg] at hcl;have hul:us.length=n.toNat*sz:=by rw[r1.1];simp
  have hnm:n.toNat*sz+(m.toNat-n.toNat)*sz=m.toNat*sz:=by
   rw[<-ZN];congr 1;omega
  have h7:=hs.nV (.row (cellsOf (List.replicate n.toNat x)++List.replicate ((m.toNat-n.toNat)*sz) .top)) (cellsOf (List.replicate n.toNat x)++List.replicate ((m.toNat-n.toNat)*sz) .top) rfl (λds e=>by
   rw[fi] at e;split at e
   .cases e
   .cases e;rfl) ((Array.range (m.toNat*sz)).map λj=>z.cells[j %z.cells.size]!).toList e (by
    simp only[zC,zg,hcl,ZK,Array.size_map,Array.size_range];omega) (λu hu=>by
    simp only[Array.toList_map,zl] at hu;obtain⟨j,hj,rfl⟩:=hu;have hp:0<z.cells.size:=by omega
    have hlt:j %z.cells.size<z.cells.size:=yX _ hp;have hm:=c2 (z.cells[j %z.cells.size]'hlt) (by simp)
    rw[getElem!_pos z.cells _ hlt];exact hm) (λj hj u hu=>by
    by_cases hj1:j<(cellsOf (List.replicate n.toNat x)).length
    .rw [ZI hj1];have hju:j<us.length:=by omega
     have h8:=r2 j us[j] (zA hju);rw[<-Array.getElem?_toList,hu] at h8;cases h8;exact .flat (r1.at_ j hj1 _ (zA hju))
    .rw [ZZ (by omega),Zw]
     exact .flat (.top _))
  refine⟨(),_,_,_,trivial,hrun,h7,?_⟩;exact RV.bsl (M:=G.M) (σ:=λb=>if b=s.bs.length then w.heap.size else G.σ b) (n:=(s.bs++[Box.row (cellsOf (List.replicate n.toNat x)++List.replicate ((m.toNat-n.toNat)*sz) .top)]).length) s.bs.length n.toNat m.toNat (some ⟨w.heap.size,0,none⟩) (by simp) (by omega) (by first|(unfold glim;omega)|(unfold lim;omega)) (λ_=>by simp)
 .exact h.elim
def Jy(z:Nat)(ae:List AV)(s:St)(K:AV->St->Prop):Prop:=
 ((0<z/\∀v∈ae,(aW v=true/\v.flat=true)/\v.cells.length=z)\/(z=1/\∃c,ae=[.mpt c]))/\K (.bsl s.bs.length ae.length ae.length) ⟨s.env,s.bs++[.row (cellsOf ae)],s.lo⟩
theorem F1{s:St}{o:Oper}{t e:TypeId}{n:Nat}{ps:Array (Nat×Operand)}(ho:o.op=.buildSlice t n ps){i:TypeInfo}{z:Value}{sz:Nat}(ht:P.underlying t=some (.slice e))(hi:P.info? e=some i)(hz:i.zero=some z)(hsz:i.size=sz)(hlim:n*sz<=16777216)(hn:n<=glim)
  {rs:List Opd} (hl:ps.toList.length=rs.length) (hln:rs.length=n) (hp:∀i (h:i<ps.toList.length) (h':i<rs.length),ps.toList[i].1=i/\opd ps.toList[i].2=some rs[i]) {K:St->Prop}
  (h:Jy sz (rs.map s.ev) s λr s'=>K (s'.put o.dst r)):OpS P o s K:=by
 have hd:∀c,o.op≠.defer c:=λc e=>by rw[ho] at e;cases e
 obtain⟨hcase,hK⟩:=h;rcases hcase with ⟨hz0,hall⟩|⟨hz1,c,hc⟩
 case inr=>
  subst hz1;obtain⟨r0,rfl⟩:∃r0,rs=[r0]:=List.length_eq_one_iff.1 (by have:=congrArg List.length hc;simpa using this)
  simp only[zQ,Ze,yA,and_true] at hc;obtain rfl:n=1:=hln.symm;obtain⟨p0,hp0⟩:∃p0,ps.toList=[p0]:=List.length_eq_one_iff.1 (by rw[hl];rfl)
  obtain⟨hp1,hp2⟩:=hp 0 (by rw[hp0];simp) (by simp)
  simp only[hp0,ZS] at hp1 hp2
  obtain rfl:ps=#[p0]:=by
   have:=congrArg List.toArray hp0;simpa using this
  obtain⟨p1,p2⟩:=p0;dsimp only at hp1 hp2;subst hp1;refine OpS.ex (ι:=Unit) (λ_=>True) (λ_=>.bsl s.bs.length 1 1) (λ_=>⟨s.env,s.bs++[.row [.mpt c]],s.lo⟩) hd (λ_ _=>by simpa[hc,cellsOf,AV.cells] using hK) λE G a w hs=>?_
  have hv:=hs.ev hp2;rw[hc] at hv;obtain⟨e1,e2⟩:=hv.bK
  have h7:=hs.nV (.row [.mpt c]) [.mpt c] rfl (λds e=>by cases e;rfl) [.map (some (G.σ c))] e (zG _) (λu hu=>by simp at hu;subst hu;rfl) (λj hj u hu=>by
   match j,hj with
   |0,_=>simp at hu;subst hu;exact .mpt c e2)
  refine⟨(),.slice (some ⟨w.heap.size,0,none⟩) 1 1,_,_,trivial,?_,h7,?_⟩
  .unfold execOp;simp only[ho,Instr.buildSlice,ya,run_underlying ht,yZ,sizeOf,typeInfo,run_program,hi,yb,hsz];simp[zeroValue,typeInfo,hi,hz,Instr.fill,e1,Value.cells,newRow];rw[show Array.range 1=#[0] from rfl];simp
  .exact RV.bsl (M:=G.M) (σ:=λb=>if b=s.bs.length then w.heap.size else G.σ b) (n:=(s.bs++[Box.row [AV.mpt c]]).length) s.bs.length 1 1 (some ⟨w.heap.size,0,none⟩) (by simp) (zG _) hn (λ_=>by simp)
 subst hsz;rw[zF] at hK;refine OpS.ex (ι:=Unit) (λ_=>True) (λ_=>.bsl s.bs.length rs.length rs.length) (λ_=>⟨s.env,s.bs++[.row (cellsOf (rs.map s.ev))],s.lo⟩) hd (λ_ _=>hK) λE G a w hs=>?_;have hall':∀(j:Nat) (hj:j<rs.length),(aW (s.ev rs[j])=true/\(s.ev rs[j]).flat=true)/\(s.ev rs[j]).cells.length=i.size:=λj hj=>hall _ (zl.2 ⟨_,zd hj,rfl⟩)
 have key:∀cs:Array Value,cs.size=n*i.size->∃vs us,Instr.fill (λj=>some (j*i.size,i.size)) cs (ps.map λx=>(x.1,a.eval x.2)).toList=some vs/\vs.size=n*i.size/\fh G.M i.size (rs.map s.ev) us/\∀(j:Nat) u,us[j]? =some u->vs[j]? =some u:=λcs hcs=>by
  obtain⟨vs,h1,h2,_,us,h4,h5⟩:=uj (G:=G) (n:=s.bs.length) (sz:=i.size) (ps.toList.map λx=>(x.1,a.eval x.2)) (rs.map s.ev) 0 cs (by simpa using hl) (λj hj=>by
   simp only[zF] at hj;simp only[ZE,ZJ];exact(hp j hj (by omega)).1) (λj hj hj'=>by
   simp only[zF] at hj hj';simp only[ZE];obtain⟨⟨q1,q2⟩,q3⟩:=hall' j hj';exact⟨hs.ev (hp j hj hj').2,q1,q2,q3⟩) (by rw[hcs];simp[hln])
  refine⟨vs,us,by simpa using h1,by rw[h2,hcs],h4,λj u hj=>?_⟩
  have:=h5 j u hj
  rwa [Nat.zero_mul,ZJ] at this
 have hsize:∀zs:Array Value,((Array.range (n*i.size)).map λj=>zs[j %zs.size]!).size=n*i.size:=λzs=>by simp
 obtain⟨vs,us,h1,h2,h3,h4⟩:=key ((Array.range (n*i.size)).map λj=>(if n*i.size=0 then #[] else z.cells)[j %(if n*i.size=0 then #[] else z.cells).size]!) (hsize _)
 have hcl:(cellsOf (rs.map s.ev)).length=n*i.size:=by
  rw[bq (z:=i.size) (λy hy=>by
   obtain⟨o,ho,rfl⟩:=zl.1 hy;exact(hall _ (zl.2 ⟨o,ho,rfl⟩)).2)]
  simp[hln]
 have hul:us.length=n*i.size:=by rw[h3.1];simp[hln]
 have hvu:vs.toList=us:=by
  apply List.ext_getElem (by rw[hul,ZK,h2])
  intro j q1 q2;have:=h4 j us[j] (zA q2);rw[zj (by simpa using q1)] at this
  simpa using yN this
 have hone:∀u∈us,u.oneCell'=true:=λu hu=>by
  obtain⟨j,hj,rfl⟩:=Zc.1 hu
  have hq:j/i.size<(rs.map s.ev).length:=by
   rw[zF,hln];exact(Zu hz0).2 (by omega)
  obtain⟨a1,a2⟩:=h3.2 _ hq;obtain⟨u',b1,b2,_⟩:=a2 (j %i.size) (by rw[a1];exact yX _ hz0)
  have hjj:j/i.size*i.size+j %i.size=j:=by have:=yK j i.size;rw[yT] at this;exact this
  rw[hjj,zA hj] at b1;cases b1;exact b2
 have h7:=hs.nV (.row (cellsOf (rs.map s.ev))) (cellsOf (rs.map s.ev)) rfl (λds e=>by
   rw[fi] at e;split at e
   .cases e
   .cases e;rfl) vs.toList e (by rw[hvu,hul,hcl];exact zG _) (λu hu=>hone u (hvu▸hu)) (λj hj u hu=>.flat (h3.at_ j hj u (hvu▸hu)))
 refine⟨(),.slice (some ⟨w.heap.size,0,none⟩) rs.length rs.length,_,_,trivial,?_,h7,?_⟩
 .have he:(ps.map λ(x:Nat×Operand)=>match x with|(i,x)=>(i,a.eval x)).toList=(ps.map λx=>(x.1,a.eval x.2)).toList:=rfl;have hlim':¬(n*i.size>2^24):=by omega
  unfold execOp;simp only[ho,Instr.buildSlice,ya,run_underlying ht,yZ,sizeOf,typeInfo,run_program,hi,yb,if_neg hlim']
  by_cases h0:n*i.size=0
  .simp only[h0,if_true] at h1|-;simp only[ya,yb,yZ];rw[he,h1,hln];rfl
  .simp only[h0,if_false] at h1|-;simp only[ya,zeroValue,typeInfo,run_program,hi,hz,yb,yZ];rw[he,h1,hln];rfl
 .exact RV.bsl (M:=G.M) (σ:=λb=>if b=s.bs.length then w.heap.size else G.σ b) (n:=(s.bs++[Box.row (cellsOf (rs.map s.ev))]).length) s.bs.length rs.length rs.length (some ⟨w.heap.size,0,none⟩) (by simp) (zG _) (by rw[hln];exact hn) (λ_=>by simp)
def np:List (Int×AV)->Int->Option AV
 |[],_=>none
 |(k,x)::l,n=>if n=k then some x else np l n
def kd:List (Int×AV)->Int->AV->List (Int×AV)
 |[],n,y=>[(n,y)]
 |(k,x)::l,n,y=>if n=k then (k,y)::l else (k,x)::kd l n y
def jq:List (Int×AV)->Int->Nat->Option (Nat×Value)
 |[],_,_=>none
 |(k,x)::l,n,j=>if n=k then some (j,vOf x) else jq l n (j+1)
theorem qE:∀(l:List (Int×AV)) (n:Int) (j:Nat),match np l n with
  |some x=>∃i,jq l n j=some (i,vOf x)
  |none=>jq l n j=none
 |[],n,j=>rfl
 |(k,x)::l,n,j=>by
  simp only[np,jq]
  by_cases h:n=k
  .simp only[if_pos h];exact⟨j,rfl⟩
  .simp only[if_neg h];exact qE l n (j+1)
theorem rJ{ik:IntKind}(n:Int):∀(l:List (Int×AV)) (i j:Nat),Instr.findNow (.int ik) (.int .i64 n) (lk i l) j=some (jq l n j)
 |[],i,j=>rfl
 |(k,x)::l,i,j=>by
  simp only[lk,Instr.findNow,Instr.sameNow,jq]
  by_cases h:n=k
  .subst h;simp
  .simp only[if_true,h,if_false];rw[show (n==k)=false by simpa using h]
   exact rJ n l (i+1) (j+1)
theorem qD(n:Int)(y:AV):∀(l:List (Int×AV)) (i j:Nat),jq l n j=none->lk i (kd l n y)=lk i l++[{key:=.int .i64 n,val:=vOf y,born:=i+l.length}]/\(kd l n y).length=l.length+1
 |[],i,j,_=>⟨rfl,rfl⟩
 |(k,x)::l,i,j,h=>by
  simp only[jq] at h;split at h
  .cases h
  .rename_i hk;obtain⟨h1,h2⟩:=qD n y l (i+1) (j+1) h;simp only[kd,if_neg hk,lk,h1,zf,zY,h2];exact⟨by rw[show i+1+l.length=i+(l.length+1) by omega],trivial⟩
theorem wa(n:Int)(y:AV):∀(l:List (Int×AV)) (i j p:Nat) (u:Value),jq l n j=some (p,u)->j<=p/\lk i (kd l n y)=(lk i l).modify (p-j) (λe=>{e with key:=.int .i64 n,val:=vOf y})/\(kd l n y).length=l.length/\((lk i l)[p-j]?).map (·.key)=some (.int .i64 n)
 |[],i,j,p,u,h=>by cases h
 |(k,x)::l,i,j,p,u,h=>by
  simp only[jq] at h;split at h
  .rename_i hk;cases h;subst hk;simp[kd,lk]
  .rename_i hk;obtain⟨h0,h1,h2,h3⟩:=wa n y l (i+1) (j+1) p u h;obtain⟨q,rfl⟩:∃q,p=j+1+q:=⟨p-(j+1),by omega⟩
   rw[show j+1+q-(j+1)=q by omega] at h1 h3
   rw[show j+1+q-j=q+1 by omega]
   refine⟨by omega,?_,?_,?_⟩
   .simp only[kd,if_neg hk,lk,h1,List.modify_succ_cons]
   .simp only[kd,if_neg hk,zY,h2]
   .simpa [lk] using h3
theorem eX{bs:List Box}{l:List (Int×AV)}(b:Nat):aa (bs++[.mp l]) b=aa bs b:=by
 rw[al];split
 .rename_i e;subst e;simp[aa,Box.cs?]
 .rfl
theorem jy{bs:List Box}{l:List (Int×AV)}(b:Nat):ag (bs++[.mp l]) b=if b=bs.length then some (yg l) else ag bs b:=by
 simp only[ag]
 by_cases h:b<bs.length
 .rw [zK h,if_neg (by omega)]
 .by_cases h2:b=bs.length
  .subst h2;simp[Box.lb?]
  .rw [if_neg h2,zS (by simp;omega),zS (by omega)]
theorem Bc(es:List MapEntry)(n:Nat){M:Hp}:(mLB es n).M.le M/\(mLB es n).n=0:=⟨(λ_ _ _ h=>by cases h),rfl⟩
theorem Fp(l:List (Int×AV)){M:Hp}:(yg l).M.le M/\(yg l).n=0:=Bc _ _
theorem RS.Kw(h:RS E G s a w):RS E ⟨G.M,λb=>if b=s.bs.length then w.heap.size else G.σ b,G.cl⟩ ⟨s.env,s.bs++[.mp []],s.lo⟩ a (w.alloc (.map #[] 0)):=by
 have hw:∀B,B<w.heap.size->(w.alloc (.map #[] 0)).heap[B]? =w.heap[B]?:=λB hB=>Below.heap_alloc _ _ _ hB
 have hg:=h.grow (M':=G.M) (w':=w.alloc (.map #[] 0)) ⟨rfl,rfl,rfl,by simp,Hp.le_refl _,λB hB _=>hw B hB,λ_ _ _ _=>rfl⟩ (λb o v hv=>by
  have:=h.ok b o v hv;simp only[Hp.of] at this|-;rw[bD (hw b (Hp.lt h.ok hv))];exact this)
 have hsz:E.w.heap.size<=w.heap.size:=h.fr.size;have hL:(w.alloc (.map #[] 0)).heap[w.heap.size]? =some (.map #[] 0):=World.alloc_heap_new w _;generalize w.alloc (.map #[] 0)=w' at*
 have hat:∀p,(⟨s.env,s.bs++[.mp []],s.lo⟩:St).at p=s.at p:=λp=>by
  cases p with
  |sl t=>rfl
  |bx b j=>simp only[St.at,eX]
 have hσ:∀b,b<s.bs.length->(if b=s.bs.length then w.heap.size else G.σ b)=G.σ b:=λb hb=>by rw[if_neg (by omega)]
 have hval:∀p x,s.at p=some x->aw (λb=>if b=s.bs.length then w.heap.size else G.σ b) a w' p=aw G.σ a w' p:=λp x hp=>by
  cases p with
  |sl t=>rfl
  |bx b j=>
   simp only[St.at] at hp
   cases hb:aa s.bs b with
   |none=>rw[hb] at hp;cases hp
   |some cs=>simp only[aw];rw[hσ b (aB hb)]
 have hnocl:∀B,w.heap.size<=B->∀p,G.cl p≠some B:=λB hB p hp=>by
  have:=(h.cllt p B hp).1;omega
 refine⟨hg.fr,hg.ok,h.nt,λp x hp=>?_,λb j x hp=>?_,λb cs hb=>?_,λb cs hb=>?_,λb b' cs cs' hb hb' e=>?_,λp z l hp=>?_,h.clinj,λp B hB b cs hb=>?_,hg.cllt,h.lo,by simp only[zC];exact Nat.le_add_right_of_le h.len,λb hb=>?_,?_⟩
 .rw [hat] at hp;rw[hval p x hp];exact(hg.val p x hp).mono (Hp.le_refl _) (by simp) hσ
 .rw [hat] at hp;rw[hval _ x hp];exact hg.one b j x hp
 .rw [eX] at hb;simp only[hσ b (aB hb)];exact hg.box b cs hb
 .rw [eX] at hb;simp only[hσ b (aB hb)];exact hg.bmem b cs hb
 .rw [eX] at hb hb';simp only[hσ b (aB hb),hσ b' (aB hb')] at e;exact h.inj b b' cs cs' hb hb' e
 .rw [hat] at hp;rw[hval p _ hp];exact hg.own p z l hp
 .rw [eX] at hb;simp only[hσ b (aB hb)];exact h.clbox p B hB b cs hb
 .have:=h.len;simp only[hσ b (by omega)]
  exact h.sig b hb
 .have hold:∀b x,ag s.bs b=some x->G.σ b<w.heap.size:=λb x hb=>(zi.1 (h.sp.ob _ _ (.inl ⟨b,x,hb,rfl,rfl⟩)).1).1;refine⟨λB o hs=>?_,λb x hb=>?_,λb b' x x' hb hb' e=>?_,h.sp.ds,λb x hb j B o hj=>?_⟩
  .rcases hs with ⟨b,x,hb,e,rfl⟩|⟨hm,rfl⟩
   .rw [jy] at hb;split at hb
    .rename_i eb;cases hb;simp only[eb,if_true] at e;subst e;exact⟨hL,hnocl _ (zG _),.inr hsz⟩
    .simp only at e;rw[hσ b (aI hb)] at e;exact hg.sp.ob B _ (.inl ⟨b,x,hb,e,rfl⟩)
   .exact hg.sp.ob B _ (.inr ⟨hm,rfl⟩)
  .rw [jy] at hb;split at hb
   .cases hb;exact⟨(Fp []).1,zJ _,λc hc=>absurd hc (Zm _)⟩
   .obtain ⟨h1,h2,h3⟩:=h.sp.base b x hb;have:=aI hb;exact⟨h1,h2,λc hc=>(hσ c (by omega)).trans (h3 c hc)⟩
  .rw [jy] at hb hb';split at hb
   .rename_i eb;split at hb'
    .rename_i eb';rw[eb,eb']
    .simp only at e;rw[hσ b' (aI hb'),if_pos eb] at e;exact absurd (hold b' x' hb') (by omega)
   .split at hb'
    .rename_i eb';simp only at e;rw[hσ b (aI hb),if_pos eb'] at e;exact absurd (hold b x hb) (by omega)
    .simp only[hσ b (aI hb),hσ b' (aI hb')] at e;exact h.sp.inj b b' x x' hb hb' e
  .rw [jy] at hb;split at hb
   .cases hb;cases hj
   .exact hg.sp.rows b x hb j B o hj
theorem cx{bs:List Box}{b:Nat}{x y:Box}(h:bs[b]? =some x)(hx:x.cs? =none)(hy:y.cs? =none)(c:Nat):aa (bs.set b y) c=aa bs c:=by
 have hb:b<bs.length:=(zB.1 h).1
 by_cases e:b=c
 .subst e;simp only[aa,h,zr,if_true,hb,hx,hy]
 .simp only[aa,zr,if_neg e]
theorem aH{bs:List Box}{b:Nat}{x y:Box}{z:LB}(h:bs[b]? =some x)(hy:y.lb? =some z)(c:Nat):ag (bs.set b y) c=if c=b then some z else ag bs c:=by
 have hb:b<bs.length:=(zB.1 h).1;simp only[ag,zr]
 by_cases e:b=c
 .subst e;simp[hb,hy]
 .rw [if_neg e,if_neg (λk=>e k.symm)]
theorem RS.qG(h:RS E G s a w){b:Nat}{x:Box}{es:List MapEntry}{n:Nat}(hb:s.bs[b]? =some x)(hx:x.lb? =some (mLB es n)):w.heap[G.σ b]? =some (.map es.toArray n)/\(∀p,G.cl p≠some (G.σ b))/\(E.FP (G.σ b)\/E.w.heap.size<=G.σ b):=
 h.sp.ob (G.σ b) _ (.inl ⟨b,mLB es n,by simp[ag,hb,hx],rfl,rfl⟩)
theorem RS.Er(h:RS E G s a w){b:Nat}{l:List (Int×AV)}(hb:s.bs[b]? =some (.mp l)):w.heap[G.σ b]? =some (.map (dF l) l.length)/\(∀p,G.cl p≠some (G.σ b))/\(E.FP (G.σ b)\/E.w.heap.size<=G.σ b):=
 h.qG hb rfl
theorem RS.xH(h:RS E G s a w){b:Nat}{x y:Box}{es es':List MapEntry}{n n':Nat}(hb:s.bs[b]? =some x)(hx:x.lb? =some (mLB es n))(hxc:x.cs? =none)(hyc:y.cs? =none)(hy:y.lb? =some (mLB es' n')):RS E G ⟨s.env,s.bs.set b y,s.lo⟩ a (w.putObj (G.σ b) (.map es'.toArray n')):=by
 obtain⟨h1,h2,h3⟩:=h.qG hb hx;have hlb:ag s.bs b=some (mLB es n):=by simp[ag,hb,hx]
 have hlt:G.σ b<w.heap.size:=(zi.1 h1).1;refine h.E6 (.map es'.toArray n') h1 rfl h3 (by simp) (cx hb hxc hyc) ⟨λB o hs=>?_,λc z hc=>?_,λc c' z z' hc hc' e=>?_,h.sp.ds,λc z hc j B o hj=>?_⟩
 .rcases hs with ⟨c,z,hc,e,ho⟩|⟨hm,ho⟩
  .rw [aH hb hy] at hc;split at hc
   .rename_i ec;cases hc;subst ec e ho;exact⟨World.putObj_heap_same hlt,h2,h3⟩
   .rename_i ec;obtain⟨h4,h5,h6⟩:=h.sp.ob B o (.inl ⟨c,z,hc,e,ho⟩);have hne:B≠G.σ b:=λe2=>ec (h.sp.inj c b z _ hc hlb (e.trans e2));exact⟨by rw[World.putObj_heap_other hne];exact h4,h5,h6⟩
  .obtain ⟨h4,h5,h6⟩:=h.sp.ob B o (.inr ⟨hm,ho⟩)
   have hne:B≠G.σ b:=λe2=>by
    rw[e2,h1,ho] at h4;cases h4
   exact⟨by rw[World.putObj_heap_other hne];exact h4,h5,h6⟩
 .rw [aH hb hy] at hc;split at hc
  .cases hc;exact⟨(Bc _ _).1,zJ _,λc hc=>absurd hc (Zm _)⟩
  .exact h.sp.base c z hc
 .rw [aH hb hy] at hc hc';split at hc
  .rename_i ec;split at hc'
   .rename_i ec';rw[ec,ec']
   .rename_i ec';rw[ec] at e;exact absurd (h.sp.inj c' b z' _ hc' hlb e.symm) ec'
  .rename_i ec;split at hc'
   .rename_i ec';rw[ec'] at e;exact absurd (h.sp.inj c b z _ hc hlb e) ec
   .exact h.sp.inj c c' z z' hc hc' e
 .rw [aH hb hy] at hc;split at hc
  .cases hc;cases hj
  .obtain ⟨h4,h5,h6⟩:=h.sp.rows c z hc j B o hj;have hne:B≠G.σ b:=λe2=>h2 _ (e2▸h5);exact⟨by rw[World.putObj_heap_other hne];exact h4,h5,h6⟩
theorem RS.CQ(h:RS E G s a w){b:Nat}{l:List (Int×AV)}(hb:s.bs[b]? =some (.mp l))(l':List (Int×AV)):RS E G ⟨s.env,s.bs.set b (.mp l'),s.lo⟩ a (w.putObj (G.σ b) (.map (dF l') l'.length)):=
 h.xH hb rfl rfl rfl rfl
def GU:List (Int×AV×Nat)->Int->Option AV
 |[],_=>none
 |(k,x,_)::l,n=>if n=k then some x else GU l n
def vj:List (Int×AV×Nat)->Int->AV->Nat->List (Int×AV×Nat)
 |[],n,y,c=>[(n,y,c)]
 |(k,x,b)::l,n,y,c=>if n=k then (k,y,b)::l else (k,x,b)::vj l n y c
def AP:List (Int×AV×Nat)->Int->Nat->Nat
 |[],_,c=>c+1
 |(k,_,_)::l,n,c=>if n=k then c else AP l n c
def IW:List (Int×AV×Nat)->Int->List (Int×AV×Nat)
 |[],_=>[]
 |(k,x,b)::l,n=>if n=k then l else (k,x,b)::IW l n
def mI:List (Int×AV×Nat)->Int->Nat->Option (Nat×Value)
 |[],_,_=>none
 |(k,x,_)::l,n,j=>if n=k then some (j,vOf x) else mI l n (j+1)
theorem vT:∀(l:List (Int×AV×Nat)) (n:Int) (j:Nat),match GU l n with
  |some x=>∃i,mI l n j=some (i,vOf x)
  |none=>mI l n j=none
 |[],n,j=>rfl
 |(k,x,b)::l,n,j=>by
  simp only[GU,mI]
  by_cases h:n=k
  .simp only[if_pos h];exact⟨j,rfl⟩
  .simp only[if_neg h];exact vT l n (j+1)
theorem uh{ik:IntKind}(n:Int):∀(l:List (Int×AV×Nat)) (j:Nat),Instr.findNow (.int ik) (.int .i64 n) (mqE l) j=some (mI l n j)
 |[],j=>rfl
 |(k,x,b)::l,j=>by
  have ih:=uh (ik:=ik) n l (j+1);simp only[mqE] at ih;simp only[mqE,zQ,Instr.findNow,Instr.sameNow,mI]
  by_cases h:n=k
  .subst h;simp
  .simp only[if_true,h,if_false];rw[show (n==k)=false by simpa using h]
   exact ih
theorem vS(n:Int)(y:AV)(c:Nat):∀(l:List (Int×AV×Nat)) (j:Nat),mI l n j=none->mqE (vj l n y c)=mqE l++[{key:=.int .i64 n,val:=vOf y,born:=c}]/\AP l n c=c+1
 |[],j,_=>⟨rfl,rfl⟩
 |(k,x,b)::l,j,h=>by
  simp only[mI] at h;split at h
  .cases h
  .rename_i hk;obtain⟨h1,h2⟩:=vS n y c l (j+1) h;simp only[vj,AP,if_neg hk];refine⟨?_,h2⟩;simp only[mqE,zQ,zf] at h1|-;rw[h1]
theorem vR(n:Int)(y:AV)(c:Nat):∀(l:List (Int×AV×Nat)) (j p:Nat) (u:Value),mI l n j=some (p,u)->j<=p/\mqE (vj l n y c)=(mqE l).modify (p-j) (λe=>{e with key:=.int .i64 n,val:=vOf y})/\AP l n c=c/\((mqE l)[p-j]?).map (·.key)=some (.int .i64 n)/\mqE (IW l n)=(mqE l).eraseIdx (p-j)/\p-j<(mqE l).length
 |[],j,p,u,h=>by cases h
 |(k,x,b)::l,j,p,u,h=>by
  simp only[mI] at h;split at h
  .rename_i hk;cases h;subst hk;simp[vj,AP,mqE,IW]
  .rename_i hk;obtain⟨h0,h1,h2,h3,h4,h5⟩:=vR n y c l (j+1) p u h;obtain⟨q,rfl⟩:∃q,p=j+1+q:=⟨p-(j+1),by omega⟩
   rw[show j+1+q-(j+1)=q by omega] at h1 h3 h4 h5
   rw[show j+1+q-j=q+1 by omega]
   simp only[mqE] at h1 h3 h4 h5;refine⟨by omega,?_,?_,?_,?_,?_⟩
   .simp only[vj,if_neg hk,mqE,zQ,h1,List.modify_succ_cons]
   .simp only[AP,if_neg hk,h2]
   .simpa [mqE] using h3
   .simp only[IW,if_neg hk,mqE,zQ,h4,List.eraseIdx_cons_succ]
   .simp [mqE] at h5|-;exact h5
def cM:AV->Bool
 |.bool _=>true
 |.int _ _=>true
 |.agg cs=>cs.all λc=>match c with
  |.bool _=>true
  |.int _ _=>true
  |_=>false
 |_=>false
theorem fw{M:Hp}{σ:Nat->Nat}{n:Nat}{x:AV}{v:Value}(hx:cM x=true)(h:RV M σ n x v):v=vOf x:=by
 unfold cM at hx;split at hx
 .exact h.dm
 .exact h.aA
 .rename_i cs;obtain⟨vs,rfl,hl,_,hv⟩:=h.dR;simp only[vOf];congr 2;apply List.ext_getElem (by simpa using hl)
  intro i h1 h2;have hi:i<cs.length:=by omega
  have h3:=hv i hi vs[i] (zA h1);have h4:=zT.1 hx _ (zd hi);rw[ZE];generalize cs[i]=c at h3 h4;split at h4
  .exact h3.dm
  .exact h3.aA
  .cases h4
 .cases hx
theorem xg{M:Hp}{σ:Nat->Nat}{n:Nat}{x:AV}(hx:cM x=true):RV M σ n x (vOf x):=by
 unfold cM at hx;split at hx
 .exact .flat (.bool _)
 .exact .flat (.int _ _)
 .rename_i cs;refine .flat (.agg cs (cs.map n9) (by simp) (λv hv=>?_) (λj h v hv=>?_))
  .obtain ⟨c,hc,rfl⟩:=zl.1 hv;have h4:=zT.1 hx _ hc;split at h4
   .rfl
   .rfl
   .cases h4
  .have h4:=zT.1 hx _ (zd h);rw[ZG,zA h] at hv;simp only[zM,zO] at hv;subst hv;generalize cs[j]=c at h4;split at h4
   .exact .bool _
   .exact .int _ _
   .cases h4
 .cases hx
theorem vm{s:St}{o:Oper}{t:TypeId}{r:Option Operand}{rr:Option Opd}(ho:o.op=.makeMap t r)(hr:lU r=some rr){kt et:TypeId}(ht:P.underlying t=some (.map kt et)){K:St->Prop}
  (h:(match rr.map s.ev with|none=>True|some (.int _ _)=>True|_=>False)/\K (St.put ⟨s.env,s.bs++[.mp []],s.lo⟩ o.dst (.mpt s.bs.length))):OpS P o s K:=by
 have hd:∀c,o.op≠.defer c:=λc e=>by rw[ho] at e;cases e
 refine OpS.val (.mpt s.bs.length) ⟨s.env,s.bs++[.mp []],s.lo⟩ hd h.2 λE G a w hs=>?_;refine⟨.map (some w.heap.size),_,_,?_,hs.Kw,?_⟩
 .unfold execOp
  cases r with
  |none=>simp[ho,Instr.makeMap]
  |some x=>
   simp only[lU] at hr;split at hr
   .rename_i rx hx;cases hr;have h1:=h.1;simp only[zM] at h1;split at h1
    .rename_i heq;cases heq
    .rename_i k n heq;simp only[zO] at heq;have hv:=hs.ev hx;rw[heq] at hv;simp[ho,Instr.makeMap,run_underlying ht,hv.aA,asInt,asIntOf]
    .exact h1.elim
   .cases hr
 .have:=RV.mpt (M:=G.M) (σ:=λb=>if b=s.bs.length then w.heap.size else G.σ b) (n:=(s.bs++[Box.mp []]).length) s.bs.length (by simp)
  simpa using this
def s9(s:St)(m k v:AV)(K:St->Prop):Prop:=
 match m,k with
 |.mpt b,.int .i64 n=>match s.bs[b]? with
  |some (.mp l)=>cM v=true/\K ⟨s.env,s.bs.set b (.mp (kd l n v)),s.lo⟩
  |some (.mq l c)=>cM v=true/\K ⟨s.env,s.bs.set b (.mq (vj l n v c) (AP l n c)),s.lo⟩
  |_=>False
 |_,_=>False
theorem aE{w:World}{r:Nat}{o:Obj}(h:w.heap[r]? =some o)(hk:o.isCells=false):(getObj r).run P w=.ok o w:=by
 cases o<;>first|(simp[getObj,Sem.run,h];done)|cases hk
theorem bl{w:World}{r n:Nat}{es:Array MapEntry}{o':Obj}(h:w.heap[r]? =some (.map es n)):(setObj r o').run P w=.ok () (w.putObj r o'):=by
 simp[setObj,Sem.run,h,World.putObj]
theorem aX{kt:TypeId}{ik:IntKind}(hkt:P.underlying kt=some (.int ik))(e:Bool)(n:Int)(w:World):(Instr.checkKey e 10000 kt (.int .i64 n)).run P w=.ok () w:=by
 show (Instr.checkKey e (9999+1) kt (.int .i64 n)).run P w=.ok () w;unfold Instr.checkKey;simp only[ya,run_underlying hkt,yZ];rfl
theorem eC{kt:TypeId}{ik:IntKind}(hkt:P.underlying kt=some (.int ik))(n:Int)(l:List (Int×AV))(w:World):(Instr.findKey kt (.int .i64 n) (dF l).toList).run P w=.ok (jq l n 0) w:=by
 simp only[Instr.findKey,ya,run_underlying hkt,yZ,dF,rJ];rfl
theorem lH{kt:TypeId}{ik:IntKind}(hkt:P.underlying kt=some (.int ik))(n:Int)(l:List (Int×AV×Nat))(w:World):(Instr.findKey kt (.int .i64 n) (mqE l).toArray.toList).run P w=.ok (mI l n 0) w:=by
 simp only[Instr.findKey,ya,run_underlying hkt,yZ,uh];rfl
theorem se{s:St}{o:Oper}{t:TypeId}{m k v:Operand}(ho:o.op=.mapUpdate t m k v)(hdn:o.dst=none){rm rk rv:Opd}(hm:opd m=some rm)(hk:opd k=some rk)(hv:opd v=some rv){kt et:TypeId}{ik:IntKind}(ht:P.underlying t=some (.map kt et))(hkt:P.underlying kt=some (.int ik)){K:St->Prop}
  (h:s9 s (s.ev rm) (s.ev rk) (s.ev rv) K):OpS P o s K:=by
 have hd:∀c,o.op≠.defer c:=λc e=>by rw[ho] at e;cases e
 unfold s9 at h;split at h
 .rename_i b n hme hke;split at h
  .rename_i l hb;obtain⟨hok,hK⟩:=h;refine OpS.skip _ hd hdn hK λE G a w hs=>?_;have hmv:=hs.ev hm;rw[hme] at hmv;have hkv:=hs.ev hk;rw[hke] at hkv;have hvv:=fw hok (hs.ev hv);obtain⟨h1,_,_⟩:=hs.Er hb;refine⟨G,_,?_,hs.CQ hb _⟩;have e1:=hmv.bK.1;have e2:=hkv.aA;have hf:=eC hkt n l w;unfold execOp
   cases hq:jq l n 0 with
   |none=>
    rw[hq] at hf;obtain⟨h2,h3⟩:=qD n (s.ev rv) l 0 0 hq
    have he:(dF l).push {key:=.int .i64 n,val:=vOf (s.ev rv),born:=l.length}=dF (kd l n (s.ev rv)):=by
     simp only[dF,h2,ZJ];simp
    simp only[ho,Instr.mapUpdate,e1,e2,hvv,ya,run_underlying ht,yZ,aE h1 rfl,aX hkt,hf,bl h1,he,h3]
    rfl
   |some q=>
    obtain⟨i,u⟩:=q;rw[hq] at hf;obtain⟨_,h2,h3,h4⟩:=wa n (s.ev rv) l 0 0 i u hq;rw[yE] at h2 h4
    have he:(dF l).modify i (λe=>{e with key:=.int .i64 n,val:=vOf (s.ev rv)})=dF (kd l n (s.ev rv)):=by
     simp only[dF,h2];apply Array.ext';simp
    have hkey:(((dF l)[i]?).map (·.key)).getD (.int .i64 n)=.int .i64 n:=by
     simp only[dF,yW,h4,ZU]
    have hstay:∀w':World,(Instr.keyThatStays (.int .i64 n) (.int .i64 n)).run P w'=.ok (.int .i64 n) w':=λw'=>by
     simp[Instr.keyThatStays,Instr.sameBits]
    simp only[ho,Instr.mapUpdate,e1,e2,hvv,ya,run_underlying ht,yZ,aE h1 rfl,aX hkt,hf,hkey,hstay,bl h1,he,h3];rfl
  .rename_i l c hb;obtain⟨hok,hK⟩:=h;refine OpS.skip _ hd hdn hK λE G a w hs=>?_;have hmv:=hs.ev hm;rw[hme] at hmv;have hkv:=hs.ev hk;rw[hke] at hkv;have hvv:=fw hok (hs.ev hv);obtain⟨h1,_,_⟩:=hs.qG hb rfl;refine⟨G,_,?_,hs.xH hb rfl rfl rfl rfl⟩;have e1:=hmv.bK.1;have e2:=hkv.aA;have hf:=lH hkt n l w;unfold execOp
   cases hq:mI l n 0 with
   |none=>
    rw[hq] at hf;obtain⟨h2,h3⟩:=vS n (s.ev rv) c l 0 hq
    have he:(mqE l).toArray.push {key:=.int .i64 n,val:=vOf (s.ev rv),born:=c}=(mqE (vj l n (s.ev rv) c)).toArray:=by
     rw[h2];simp
    simp only[ho,Instr.mapUpdate,e1,e2,hvv,ya,run_underlying ht,yZ,aE h1 rfl,aX hkt,hf,bl h1,he,h3]
    rfl
   |some q=>
    obtain⟨i,u⟩:=q;rw[hq] at hf;obtain⟨_,h2,h3,h4,_,_⟩:=vR n (s.ev rv) c l 0 i u hq;rw[yE] at h2 h4
    have he:(mqE l).toArray.modify i (λe=>{e with key:=.int .i64 n,val:=vOf (s.ev rv)})=(mqE (vj l n (s.ev rv) c)).toArray:=by
     rw[h2];apply Array.ext';simp
    have hkey:(((mqE l).toArray[i]?).map (·.key)).getD (.int .i64 n)=.int .i64 n:=by
     simp only[yW,h4,ZU]
    have hstay:∀w':World,(Instr.keyThatStays (.int .i64 n) (.int .i64 n)).run P w'=.ok (.int .i64 n) w':=λw'=>by
     simp[Instr.keyThatStays,Instr.sameBits]
    simp only[ho,Instr.mapUpdate,e1,e2,hvv,ya,run_underlying ht,yZ,aE h1 rfl,aX hkt,hf,hkey,hstay,bl h1,he,h3];rfl
  .exact h.elim
 .exact h.elim
def okR(ok:Bool)(x:AV)(b:Bool):AV:=match ok with
 |true=>.tup [x,.bool b]
 |false=>x
def ue(ok:Bool)(z:AV)(s:St)(m k:AV)(K:AV->Prop):Prop:=
 match m,k with
 |.mpt b,.int .i64 n=>match s.bs[b]? with
  |some (.mp l)=>match np l n with
   |some x=>cM x=true/\K (okR ok x true)
   |none=>K (okR ok z false)
  |some (.mq l _)=>match GU l n with
   |some x=>cM x=true/\K (okR ok x true)
   |none=>K (okR ok z false)
  |_=>False
 |.nmp,.int .i64 _=>K (okR ok z false)
 |_,_=>False
theorem RV.Jj{M:Hp}{σ:Nat->Nat}{n:Nat}{v:Value}(h:RV M σ n .nmp v):v=.map none:=by
 cases h with
 |flat h=>cases h;rfl
theorem yi{s:St}{o:Oper}{t:TypeId}{m k:Operand}{ok:Bool}(ho:o.op=.lookup t m k ok){rm rk:Opd}(hm:opd m=some rm)(hk:opd k=some rk){kt et:TypeId}{ik:IntKind}(ht:P.underlying t=some (.map kt et))(hkt:P.underlying kt=some (.int ik))
  {i:TypeInfo} {zv:Value} {z:AV} (hi:P.info? et=some i) (hz:i.zero=some zv) (hzx:cH zv=some z) {K:St->Prop} (h:ue ok z s (s.ev rm) (s.ev rk) λr=>K (s.put o.dst r)):OpS P o s K:=by
 have hd:∀c,o.op≠.defer c:=λc e=>by rw[ho] at e;cases e
 have tup:∀(M:Hp) (σ:Nat->Nat) (nb:Nat) (x:AV) (v:Value) (b:Bool),RV M σ nb x v->RV M σ nb (.tup [x,.bool b]) (.tuple #[v,.bool b]):=λM σ nb x v b hx=>by
  refine .tup _ [v,.bool b] rfl λj hj u hu=>?_
  match j,hj with
  |0,_=>simp at hu;subst hu;exact hx
  |1,_=>simp at hu;subst hu;exact .flat (.bool b)
 have fin:∀(x:AV) (b:Bool),(∃v:Value,(∀(M:Hp) (σ:Nat->Nat) (nb:Nat),RV M σ nb x v)/\∀E G a w,RS E G s a w->(Instr.lookup t (a.eval m) (a.eval k) ok).run P w=.ok (if ok then .tuple #[v,.bool b] else v) w)->K (s.put o.dst (okR ok x b))->OpS P o s K:=λx b ⟨v,hv,hrun⟩ hK=>by
  cases ok with
  |true=>
   refine OpS.pure _ hd hK λE G a w hs=>⟨_,?_,tup _ _ _ _ _ _ (hv _ _ _)⟩;unfold execOp;simp only[ho,hrun E G a w hs,ya,yZ,if_true]
   rfl
  |false=>
   refine OpS.pure _ hd hK λE G a w hs=>⟨v,?_,hv _ _ _⟩;unfold execOp;simp only[ho,hrun E G a w hs,ya,yZ];rfl
 have hzv:∀(M:Hp) (σ:Nat->Nat) (nb:Nat),RV M σ nb z zv:=λM σ nb=>.flat (dW hzx);have hzr:∀w:World,(zeroValue et).run P w=.ok zv w:=λw=>by simp[zeroValue,typeInfo,hi,hz]
 unfold ue at h;split at h
 .rename_i b n hme hke;split at h
  .rename_i l hb
   have hrun:∀E G a w,RS E G s a w->a.eval m=.map (some (G.σ b))/\a.eval k=.int .i64 n/\w.heap[G.σ b]? =some (.map (dF l) l.length):=λE G a w hs=>by
    have hmv:=hs.ev hm;rw[hme] at hmv;have hkv:=hs.ev hk;rw[hke] at hkv;exact⟨hmv.bK.1,hkv.aA,(hs.Er hb).1⟩
   have hg:=qE l n 0;split at h
   .rename_i x hx;rw[hx] at hg;obtain⟨j,hj⟩:=hg;refine fin x true ⟨vOf x,λM σ nb=>xg h.1,λE G a w hs=>?_⟩ h.2;obtain⟨e1,e2,e3⟩:=hrun E G a w hs;have hf:=eC hkt n l w;rw[hj] at hf;simp only[Instr.lookup,e1,e2,ya,run_underlying ht,yZ,aE e3 rfl,yb,aX hkt,hf]
   .rename_i hx;rw[hx] at hg;simp only at hg;refine fin z false ⟨zv,hzv,λE G a w hs=>?_⟩ h;obtain⟨e1,e2,e3⟩:=hrun E G a w hs;have hf:=eC hkt n l w;rw[hg] at hf;simp only[Instr.lookup,e1,e2,ya,run_underlying ht,yZ,aE e3 rfl,yb,aX hkt,hf,hzr]
  .rename_i l c hb
   have hrun:∀E G a w,RS E G s a w->a.eval m=.map (some (G.σ b))/\a.eval k=.int .i64 n/\w.heap[G.σ b]? =some (.map (mqE l).toArray c):=λE G a w hs=>by
    have hmv:=hs.ev hm;rw[hme] at hmv;have hkv:=hs.ev hk;rw[hke] at hkv;exact⟨hmv.bK.1,hkv.aA,(hs.qG hb rfl).1⟩
   have hg:=vT l n 0;split at h
   .rename_i x hx;rw[hx] at hg;obtain⟨j,hj⟩:=hg;refine fin x true ⟨vOf x,λM σ nb=>xg h.1,λE G a w hs=>?_⟩ h.2;obtain⟨e1,e2,e3⟩:=hrun E G a w hs;have hf:=lH hkt n l w;rw[hj] at hf;simp only[Instr.lookup,e1,e2,ya,run_underlying ht,yZ,aE e3 rfl,yb,aX hkt,hf]
   .rename_i hx;rw[hx] at hg;simp only at hg;refine fin z false ⟨zv,hzv,λE G a w hs=>?_⟩ h;obtain⟨e1,e2,e3⟩:=hrun E G a w hs;have hf:=lH hkt n l w;rw[hg] at hf;simp only[Instr.lookup,e1,e2,ya,run_underlying ht,yZ,aE e3 rfl,yb,aX hkt,hf,hzr]
  .exact h.elim
 .rename_i n hme hke;refine fin z false ⟨zv,hzv,λE G a w hs=>?_⟩ h;have hmv:=hs.ev hm;rw[hme] at hmv;have hkv:=hs.ev hk;rw[hke] at hkv;have e1:a.eval m=.map none:=hmv.Jj;have hf:=eC (P:=P) hkt n [] w;simp only[jq] at hf;simp only[Instr.lookup,e1,hkv.aA,ya,run_underlying ht,yZ,yb,aX hkt];rw[show ([]:List MapEntry)=(dF []).toList from rfl,hf];simp only[yZ,ya,hzr,yb]
 .exact h.elim
theorem Fh{s:St}{o:Oper}{x hi:Operand}{t e:Nat}(ho:o.op=.slice t x none (some hi) none){rx rh:Opd}(hx:opd x=some rx)(hhi:opd hi=some rh){sz:Nat}(ht:P.underlying t=some (.slice e))(hsz:dH P e=some sz){ki:IntKind}(hxe:s.ev rx=.sl .full [])(hhe:s.ev rh=.int ki 0){K:St->Prop}
  (h:K (s.put o.dst (.sl .full []))):OpS P o s K:=by
 have hd:∀c,o.op≠.defer c:=λc e=>by rw[ho] at e;cases e
 refine OpS.pure _ hd h λE G a w hs=>?_;have hxv:=hs.ev hx;rw[hxe] at hxv;have hhv:=hs.ev hhi;rw[hhe] at hhv;have hhv:=hhv.aA;obtain⟨ad,kk,B,off,sz',h1,_,_,_,h2,_⟩:=hxv.cq;have:=h2 rfl;subst this;refine⟨.slice ad 0 0,?_,?_⟩
 .have e1:(Instr.sliceBounds true 0 0 none (some (.int ki 0)) none).run P w=.ok (0,0,0) w:=by
   unfold Instr.sliceBounds;simp[Instr.sliceBound,asIntOf]
  unfold execOp;simp only[ho,Instr.sliceAt,ya,run_underlying ht,yZ,h1,Instr.slice,yM,zM,hhv,ZR,e1,aL hsz,yb];simp
 .have h1':a.eval x=.slice ad 0 0:=h1;rw[<-h1'];exact hxv
theorem FX{s:St}{o:Oper}{x:Operand}{t e:Nat}(ho:o.op=.call {callee:=.builtin .cap,args:=#[x],argTypes:=#[t]}){rx:Opd}(hx:opd x=some rx)(ht:P.underlying t=some (.slice e)){K:St->Prop}(h:dj .cap [s.ev rx] λr=>K (s.put o.dst r)):OpS P o s K:=by
 have hd:∀c,o.op≠.defer c:=λc e=>by rw[ho] at e;cases e
 have hrun:∀(a:Act) (w:World) (ad:Option Addr) (m k:Nat),a.eval x=.slice ad m k->(execOp a.eval o).run P w=.ok (.value (.int .i64 k)) w:=λa w ad m k h=>by
  unfold execOp;simp[ho,resolve,invoke,builtin,Builtin.cap_,run_underlying ht,h,goInt]
 unfold dj at h;generalize hxe:s.ev rx=v at h;cases v<;>first|(simp[mC.val] at h;done)|skip
 .rename_i c l;cases c<;>first|(simp[mC.val] at h;done)|skip
  refine OpS.pure _ hd h λE G a w hs=>?_;have hxv:=hs.ev hx;rw[hxe] at hxv;obtain⟨ad,kk,B,off,sz',h1,_,_,_,h2,_⟩:=hxv.cq;have:=h2 rfl;subst this;exact⟨_,hrun a w _ _ _ h1,.flat (.int _ _)⟩
 .refine OpS.pure _ hd h λE G a w hs=>?_;have hxv:=hs.ev hx;rw[hxe] at hxv;obtain⟨ad,h1,_⟩:=hxv.cd;exact⟨_,hrun a w _ _ _ h1,.flat (.int _ _)⟩
theorem CJ(ns:List Int):∀(b:ByteArray),(ns.foldl (λr n=>r.push (UInt8.ofNat n.toNat)) b).size=b.size+ns.length:=by
 induction ns with
 |nil=>intro b;simp
 |cons n ns ih=>intro b;rw[Zy,ih,ByteArray.size_push,zY];omega
theorem wx:∀{l:List AV} {ns:List Int},tZ l=some ns->l=ns.map (AV.int .u8)
 |[],ns,h=>by cases h;rfl
 |x::l,ns,h=>by
  unfold tZ at h;split at h
  .rename_i e;cases e
  .rename_i n r e;cases e;split at h
   .rename_i m hm;cases h;rw[wx hm];rfl
   .cases h
  .cases h
theorem FZ{s:St}{o:Oper}{x:Operand}{t u e:Nat}(ho:o.op=.convert t u x){rx:Opd}(hx:opd x=some rx)(ht:P.underlying t=some (.slice e))(he:P.underlying e=some (.int .u8))(hu:P.underlying u=some .string){K:St->Prop}(h:dj .bts [s.ev rx] λr=>K (s.put o.dst r)):OpS P o s K:=by
 have hd:∀c,o.op≠.defer c:=λc e=>by rw[ho] at e;cases e
 unfold dj at h;generalize hxe:s.ev rx=v at h;cases v<;>first|(simp[mC.val] at h;done)|skip
 rename_i oc l
 cases hn:tZ l with
 |none=>simp[mC.val,hn] at h
 |some ns=>
  simp only[mC.val,hn] at h;have hl:=wx hn;refine OpS.pure _ hd h λE G a w hs=>?_;have hxv:=hs.ev hx;rw[hxe] at hxv;obtain⟨ad,k,B,off,hsv⟩:=hxv.sv (sz:=1) (λy hy=>by rw[hl] at hy;obtain⟨n,_,rfl⟩:=zl.1 hy;rfl)
  have hlen:l.length=ns.length:=by rw[hl,zF]
  have hcell:∀j (hj:j<ns.length),w.cell? ⟨B,off+j,none⟩=some (.int .u8 ns[j]):=λj hj=>by
   obtain⟨_,h2⟩:=hsv.el j (by omega)
   obtain⟨v,h3,_,h4⟩:=h2 0 (by simp[hl,AV.cells])
   have h5:=hs.ok _ _ _ h3;simp only[hl,ZE,AV.cells,ZS] at h4;cases h4;simp only[Hp.of,Nat.mul_one,Zi] at h5;exact h5
  refine⟨.string (strOf ns),?_,.flat (.str _ (by rw[strOf,CJ,<-hlen];have:=hsv.len;simpa using this))⟩
  have hrun:(convert t u (a.eval x)).run P w=.ok (.string (strOf ns)) w:=by
   rw[hsv.eq,run_convert_bytes_string w t u e ad l.length k ht he hu]
   cases had:ad with
   |none=>
    have h0:l=[]:=Classical.byContradiction λh1=>by have:=hsv.at_ h1;rw[had] at this;cases this
    have h0':ns=[]:=by cases ns with|nil=>rfl|cons=>rw[hl] at h0;cases h0
    subst h0'
    simp[Conv.bytesToString,strOf]
   |some ad=>
    have hload:=run_loadCells_list (P:=P) (w:=w) ad (ns.map (Value.int .u8)) (λj v hj=>by
     have hj':j<ns.length:=by
      have:=(zB.1 hj).1;simpa using this
     have h0:l≠[]:=λh1=>by rw[h1] at hlen;simp at hlen;omega
     have h1:=hsv.at_ h0;rw[had] at h1;cases h1;rw[bN,hcell j hj'];simp[zA hj'] at hj;rw[<-hj])
    rw[zF] at hload;rw[hlen];exact run_bytesToString w ad ns.length k ns hload
  unfold execOp;simp only[ho,ya,hrun,yZ,yb]
theorem Fv{s:St}{o:Oper}{t:TypeId}{x:Operand}(ho:o.op=.load t x){rx:Opd}(hx:opd x=some rx){agg:Bool}{n:Nat}(ha:nP P t=some agg)(hn:agg=true->dH P t=some n){K:St->Prop}(h:dj (.lde agg n) [s.ev rx] λr=>K (s.put o.dst r)):OpS P o s K:=by
 refine iU ho hx ha hn ?_;unfold dj at h;generalize s.ev rx=v at h;cases v<;>first|(simp[mC.val] at h;done)|skip
 rename_i cs;simp only[mC.val,Lq] at h;simp only[St.rd,bL]
 cases agg with
 |true=>
  simp only at h|-
  cases hb:Nat.ble n cs.length with
  |true=>rw[hb] at h;exact af.2 ⟨rfl,h⟩
  |false=>rw[hb] at h;exact h.elim
 |false=>
  cases cs with
  |nil=>exact h.elim
  |cons c r=>exact h
theorem F5{v:Value}(h:cH v=some (.sl .full [])):v=.slice none 0 0:=by
 cases v<;>first|(simp[cH,oC] at h;done)|skip
 case pointer a=>cases a<;>simp[cH,oC] at h
 case map a=>cases a<;>simp[cH,oC] at h
 case slice a n k=>
  cases a with
  |some a=>simp[cH,oC] at h
  |none=>
   match n,k,h with
   |0,0,_=>rfl
   |0,k+1,h=>simp[cH,oC] at h
   |n+1,k,h=>simp[cH,oC] at h
theorem AZ{y:Operand}(h:opd y=some (.c (.sl .full []))):y=.const (.slice none 0 0):=by
 cases y with
 |tmp t=>cases h
 |const v=>
  simp only[opd] at h
  cases hv:cH v with
  |none=>rw[hv] at h;cases h
  |some x=>
   rw[hv] at h;have hx:x=.sl .full []:=by simpa using h
   subst hx
   rw[F5 hv]
 |func f=>cases h
 |global g=>cases h
theorem tG{s:St}{o:Oper}{neg:Bool}{t u e:Nat}{x y:Operand}(ho:o.op=.binOp (match neg with|true=>.neq|false=>.eql) t x y u){rx:Opd}(hx:opd x=some rx)(hy:y=.const (.slice none 0 0))(ht:P.underlying t=some (.slice e)){K:St->Prop}{oc:Cap}{l:List AV}(hxe:s.ev rx=.sl oc l)
  (h:(l≠[]->K (s.put o.dst (.bool (bU neg false))))/\(l=[]->∀b,K (s.put o.dst (.bool (bU neg b))))):OpS P o s K:=by
 have hd:∀c,o.op≠.defer c:=λc e=>by rw[ho] at e;cases e
 refine OpS.ex (ι:=Bool) (λb=>l≠[]->b=false) (λb=>.bool (bU neg b)) (λ_=>s) hd (λb hb=>?_) λE G a w hs=>?_
 .by_cases hl:l=[]
  .exact h.2 hl b
  .rw [hb hl];exact h.1 hl
 .have hxv:=hs.ev hx;rw[hxe] at hxv;obtain⟨ad,k,B,off,sz,h1,_,_,_,_,h2,_⟩:=hxv.cq;refine⟨ad.isNone,.bool (bU neg ad.isNone),G,w,λhl=>by rw[h2 hl];rfl,?_,hs,.flat (.bool _)⟩
  subst hy;have h1':a.eval x=.slice ad l.length k:=h1;rw[dn P _ o ho w (by rw[h1'];simp) (by rw[h1'];simp),h1']
  cases neg with
  |false=>
   have h3:=Lib.run_eql_slice_nil (P:=P) w t e ad l.length k 0 0 ht
   simp only[Act.eval,h3,yZ,bU]
  |true=>
   have h3:=run_neq_slice_nil_any (P:=P) w t e ad l.length k 0 0 ht;simp only[Act.eval,h3,yZ,bU]
def um(zx:AV)(s:St)(m k:AV)(K:AV->St->Prop):Prop:=
 match m,k with
 |.mpt b,.int .i64 n=>match s.bs[b]? with
  |some (.mp l)=>(np l n=none/\cM zx=true)/\K (.tup [zx,.int .i64 l.length]) ⟨s.env,s.bs.set b (.mp (l++[(n,zx)])),s.lo⟩
  |_=>False
 |_,_=>False
theorem A6:∀{l:List (Int×AV)} {n:Int},np l n=none->∀y,kd l n y=l++[(n,y)]
 |[],_,_,_=>rfl
 |(k,x)::l,n,h,y=>by
  simp only[np] at h;split at h
  .cases h
  .rename_i hk;simp only[kd,if_neg hk,A6 h y,zf]
theorem DF{s:St}{o:Oper}{t:TypeId}{m k:Operand}(ho:o.op=.mapEntry t m k){rm rk:Opd}(hm:opd m=some rm)(hk:opd k=some rk){kt et:TypeId}{ik:IntKind}(ht:P.underlying t=some (.map kt et))(hkt:P.underlying kt=some (.int ik))
  {i:TypeInfo} {zv:Value} {z:AV} (hi:P.info? et=some i) (hz:i.zero=some zv) (hzx:cH zv=some z) {K:St->Prop} (h:um z s (s.ev rm) (s.ev rk) λr s'=>K (s'.put o.dst r)):OpS P o s K:=by
 have hd:∀c,o.op≠.defer c:=λc e=>by rw[ho] at e;cases e
 unfold um at h;split at h
 .rename_i b n hme hke;split at h
  .rename_i l hb;obtain⟨⟨hn,hok⟩,hK⟩:=h;refine OpS.ex (ι:=Unit) (λ_=>True) (λ_=>.tup [z,.int .i64 l.length]) (λ_=>⟨s.env,s.bs.set b (.mp (l++[(n,z)])),s.lo⟩) hd (λ_ _=>hK) λE G a w hs=>?_;have hmv:=hs.ev hm;rw[hme] at hmv;have hkv:=hs.ev hk;rw[hke] at hkv;obtain⟨h1,_,_⟩:=hs.Er hb;have e1:=hmv.bK.1;have e2:=hkv.aA
   have hq:jq l n 0=none:=by
    have:=qE l n 0;rw[hn] at this;exact this
   have hf:=eC hkt n l w;rw[hq] at hf;have hzv:zv=vOf z:=fw hok (RV.flat (M:=G.M) (σ:=G.σ) (n:=0) (dW hzx));obtain⟨h2,h3⟩:=qD n z l 0 0 hq;rw[A6 hn] at h2 h3
   have he:(dF l).push {key:=.int .i64 n,val:=zv,born:=l.length}=dF (l++[(n,z)]):=by
    simp only[dF,h2,ZJ,hzv];simp
   have hzr:∀w:World,(zeroValue et).run P w=.ok zv w:=λw=>by simp[zeroValue,typeInfo,hi,hz]
   refine⟨(),.tuple #[zv,.int .i64 l.length],_,_,trivial,?_,hs.CQ hb (l++[(n,z)]),?_⟩
   .unfold execOp;simp only[ho,Instr.mapEntry,e1,e2,ya,run_underlying ht,yZ,aE h1 rfl,aX hkt,hf,hzr,bl h1,he,h3,yb,goInt]
   .refine .tup _ [zv,.int .i64 l.length] rfl λj hj u hu=>?_
    match j,hj with
    |0,_=>simp at hu;subst hu;exact .flat (dW hzx)
    |1,_=>simp at hu;subst hu;exact .flat (.int _ _)
  .exact h.elim
 .exact h.elim
def sV(s:St)(m j v:AV)(K:St->Prop):Prop:=
 match m,j with
 |.mpt b,.int .i64 j=>match s.bs[b]? with
  |some (.mp l)=>match l[j.toNat]? with
   |some (k,_)=>(0<=j/\cM v=true)/\K ⟨s.env,s.bs.set b (.mp (l.set j.toNat (k,v))),s.lo⟩
   |none=>False
  |_=>False
 |_,_=>False
theorem wh:∀(l:List (Int×AV)) (i j:Nat),j<l.length->(lk i l).findIdx? (λe=>(e.born:Int)==((i+j:Nat):Int))=some j
 |[],i,j,h=>by cases h
 |(k,x)::l,i,j,h=>by
  simp only[lk,List.findIdx?_cons]
  cases j with
  |zero=>simp
  |succ j=>
   have h1:((i:Int)==((i+(j+1):Nat):Int))=false:=by
    rw[beq_eq_false_iff_ne];omega
   have h2:=wh l (i+1) j (by simpa using h)
   rw[show i+1+j=i+(j+1) by omega] at h2
   rw[h1];simp only[Za,if_false,h2,zM]
theorem Ba(y:AV):∀(l:List (Int×AV)) (i j:Nat) (k:Int) (x:AV),l[j]? =some (k,x)->lk i (l.set j (k,y))=(lk i l).modify j λe=>{e with val:=vOf y}
 |[],i,j,k,x,h=>by simp at h
 |(k0,x0)::l,i,j,k,x,h=>by
  cases j with
  |zero=>simp at h;obtain⟨rfl,rfl⟩:=h;simp[lk]
  |succ j=>
   have:=Ba y l (i+1) j k x (by simpa using h)
   simp only[List.set_cons_succ,lk,this,List.modify_succ_cons]
theorem CL{s:St}{o:Oper}{t:TypeId}{m j v:Operand}(ho:o.op=.entryStore t m j v)(hdn:o.dst=none){rm rj rv:Opd}(hm:opd m=some rm)(hj:opd j=some rj)(hv:opd v=some rv){K:St->Prop}
  (h:sV s (s.ev rm) (s.ev rj) (s.ev rv) K):OpS P o s K:=by
 have hd:∀c,o.op≠.defer c:=λc e=>by rw[ho] at e;cases e
 unfold sV at h;split at h
 .rename_i b q hme hje;split at h
  .rename_i l hb;split at h
   .rename_i k x hl;obtain⟨⟨h0,hok⟩,hK⟩:=h;obtain⟨q,rfl⟩:∃n:Nat,q=n:=⟨q.toNat,by omega⟩
    simp only[Zq] at hl hK;refine OpS.skip _ hd hdn hK λE G a w hs=>?_;have hmv:=hs.ev hm;rw[hme] at hmv;have hjv:=hs.ev hj;rw[hje] at hjv;have hvv:=fw hok (hs.ev hv);obtain⟨h1,_,_⟩:=hs.Er hb;refine⟨G,_,?_,hs.CQ hb _⟩;have e1:=hmv.bK.1;have e2:=hjv.aA;have hlt:q<l.length:=(zB.1 hl).1;have hf:=wh l 0 q hlt;rw[ZJ] at hf
    have he:(dF l).modify q (λe=>{e with val:=vOf (s.ev rv)})=dF (l.set q (k,s.ev rv)):=by
     simp only[dF,Ba (s.ev rv) l 0 q k x hl];apply Array.ext';simp
    have hf2:(dF l).findIdx? (λe=>(e.born:Int)==(q:Int))=some q:=by
     simp only[dF,List.findIdx?_toArray];exact hf
    unfold execOp;simp only[ho,Instr.entryStore,e1,e2,hvv,ya,yZ,aE h1 rfl,asInt,asIntOf,yb,hf2,bl h1,he,zn]
   .exact h.elim
  .exact h.elim
 .exact h.elim
def skE:Nat->List (List AV×AV)->List MapEntry
 |_,[]=>[]
 |i,(k,x)::l=>{key:=.agg (k.map n9).toArray,val:=vOf x,born:=i}::skE (i+1) l
theorem As(k:List AV)(x:AV):∀(l:List (List AV×AV)) (i:Nat),skE i (l++[(k,x)])=skE i l++[{key:=.agg (k.map n9).toArray,val:=vOf x,born:=i+l.length}]
 |[],i=>rfl
 |(k',x')::l,i=>by
  show _::skE (i+1) (l++[(k,x)])=_::(skE (i+1) l++_);rw[As k x l (i+1),zY,show i+1+l.length=i+(l.length+1) by omega]
def s7(ks:List FK)(cs:List AV):List (List AV×AV)->Option (Option AV)
 |[]=>some none
 |(k,x)::l=>match lz ks cs k with
  |some true=>some (some x)
  |some false=>s7 ks cs l
  |none=>none
def GI(ks:List FK)(cs:List AV):Prop:=cM (.agg cs)=true/\cs.length=ks.length
def IP(l:List (List AV×AV)):Prop:=∀e∈l,cM (.agg e.1)=true/\cM e.2=true
theorem wE:∀(fs:List Field) (k:Nat) (ks:List FK),oq P k fs=some ks->ks.length=fs.length
 |[],k,ks,h=>by simp only[oq,zO] at h;subst h;rfl
 |f::fs,k,ks,h=>by
  simp only[oq] at h;split at h
  .rename_i h4;cases h;rw[zY,zY,wE fs (k+1) _ h4]
  .cases h
theorem D0{cs:List AV}(h:cM (.agg cs)=true):∀j (hj:j<cs.length) v,(cs.map n9).toArray[j]? =some v->RV (λ_ _=>none) (λ_=>0) 0 cs[j] v:=by
 obtain⟨us,hu,_,_,hr⟩:=(xg (M:=λ_ _=>none) (σ:=λ_=>0) (n:=0) h).dR;intro j hj v hv
 have e:(cs.map n9).toArray=us.toArray:=by
  have:=hu;simp only[vOf,Value.agg.injEq] at this;exact this
 rw[e] at hv;exact hr j hj v (by simpa using hv)
theorem Ed{t:TypeId}{ks:List FK}(hk:ff P t=some ks){cs ds:List AV}(ha:cM (.agg cs)=true)(hb:cM (.agg ds)=true){b:Bool}(he:lz ks cs ds=some b)(w:World):
  (Op.equal t (.agg (cs.map n9).toArray) (.agg (ds.map n9).toArray)).run P w=.ok b w:=by
 unfold ff at hk;split at hk
 .rename_i fs ht;split at hk
  .rename_i hst hg;have hfo:P.fieldsOf t=fs:=by simp[Program.fieldsOf,ht]
   have:=run_equalIn_struct (P:=P) w 9999 t (cs.map n9).toArray (ds.map n9).toArray (by rw[hfo];exact ht) hst
   unfold Op.equal;rw[show Op.maxDepth=9999+1 from rfl,this,hfo];exact mm (d:=9998) w fs.toList 0 ks cs ds b hk he (λj hj v hv=>D0 ha j hj v (by simpa using hv)) (λj hj v hv=>D0 hb j hj v (by simpa using hv)) (by simp) (by simp)
  .cases hk
 .cases hk
theorem mG(em:Bool)(d:Nat)(w:World){xs:Array Value}:∀(fs:List Field) (k:Nat) (ks:List FK),oq P k fs=some ks->k+fs.length<=xs.size->
  (forIn fs PUnit.unit λf _=>(do
    if f.name ≠ "_" then Instr.checkKey em (d + 1) f.type (← part f.type xs f.offset)
    pure (ForInStep.yield PUnit.unit):Sem (ForInStep PUnit))).run P w=.ok PUnit.unit w
 |[],k,ks,h,hl=>by simp
 |f::fs,k,ks,h,hl=>by
  simp only[oq] at h;split at h
  ·rename_i x xs' h1 h2 h3 h4; cases h; have h2 := Nat.eq_of_beq_eq_true h2; have hn : f.name ≠ "_" := by simpa using h1
   rw[zY] at hl;obtain⟨u,hu⟩:∃u,xs[k]? =some u:=⟨_,zj (by omega)⟩
   have hp:P.plainKey f.type=true:=by
    unfold Jo at h3;split at h3<;>first|(rename_i hu;simp[Program.plainKey,hu];done)|cases h3
   have p1:=run_part_plain (P:=P) w hp (xs:=xs) (off:=f.offset) (v:=u) (by rw[h2];exact hu)
   have p2:(Instr.checkKey em (d+1) f.type u).run P w=.ok () w:=by
    unfold Instr.checkKey;unfold Jo at h3;split at h3<;>first|(rename_i hu;simp only[ya,run_underlying hu,yZ];cases u<;>rfl)|cases h3
   have ih:=mG em d w (xs:=xs) fs (k+1) xs' h4 (by omega)
   simp only[List.forIn_cons,ya,hn,ne_eq,not_false_eq_true,if_true,yZ,p1,p2,yb];simpa using ih
  .cases h
theorem jD{t:TypeId}{ks:List FK}(hk:ff P t=some ks){cs:List AV}(ha:GI ks cs)(em:Bool)(w:World):(Instr.checkKey em 10000 t (.agg (cs.map n9).toArray)).run P w=.ok () w:=by
 unfold ff at hk;split at hk
 .rename_i fs ht;split at hk
  .show (Instr.checkKey em (9999+1) t _).run P w=.ok () w;unfold Instr.checkKey;simp only[ya,run_underlying ht,yZ];rw[<-Array.forIn_toList];have:=mG (P:=P) em 9998 w (xs:=(cs.map n9).toArray) fs.toList 0 ks hk (by rw[<-wE _ _ _ hk,<-ha.2];simp)
   simp at this;simp[this]
  .cases hk
 .cases hk
theorem pr{t:TypeId}{ks:List FK}(hk:ff P t=some ks){cs:List AV}(ha:GI ks cs)(w:World):∀(l:List (List AV×AV)) (i j:Nat) (r:Option AV),IP l->s7 ks cs l=some r->∃q,(Instr.findAsking t (.agg (cs.map n9).toArray) (skE i l) j).run P w=.ok q w/\q.map (·.2)=r.map vOf
 |[],i,j,r,_,h=>by
  cases h
  exact⟨none,by simp[skE,Instr.findAsking],rfl⟩
 |(k,x)::l,i,j,r,hl,h=>by
  have hkx:=(hl _ (zW ..)).1;simp only[s7] at h;split at h
  .rename_i he;cases h;refine⟨some (j,vOf x),?_,rfl⟩;simp only[skE,Instr.findAsking,ya,Ed hk ha.1 hkx he w,yZ,if_true,yb]
  .rename_i he;obtain⟨q,h1,h2⟩:=pr hk ha w l (i+1) (j+1) r (λe he=>hl e (zR _ he)) h;refine⟨q,?_,h2⟩;simp only[skE,Instr.findAsking,ya,Ed hk ha.1 hkx he w,yZ,Za,if_false,h1]
  .cases h
theorem lG{t:TypeId}{ks:List FK}(hk:ff P t=some ks){cs:List AV}(ha:GI ks cs)(w:World){l:List (List AV×AV)}{r:Option AV}(hl:IP l)(h:s7 ks cs l=some r):∃q,(Instr.findKey t (.agg (cs.map n9).toArray) (skE 0 l).toArray.toList).run P w=.ok q w/\q.map (·.2)=r.map vOf:=by
 obtain⟨q,h1,h2⟩:=pr (P:=P) hk ha w l 0 0 r hl h;refine⟨q,?_,h2⟩
 rw[run_findKey_eq w (by
  unfold ff at hk;split at hk
  .rename_i fs ht;rw[ht]
  .cases hk)]
 exact h1
def GJ(ks:List FK)(s:St)(m k v:AV)(K:St->Prop):Prop:=
 ∃b cs l x,m=.mpt b/\k=.agg cs/\s.bs[b]? =some x/\x.lb? =some (mLB (skE 0 l) l.length)/\x.cs? =none/\GI ks cs/\IP l/\s7 ks cs l=some none/\cM v=true/\K ⟨s.env,s.bs.set b (.loop (mLB (skE 0 (l++[(cs,v)])) (l.length+1))),s.lo⟩
def HH(ks:List FK)(ok:Bool)(z:AV)(s:St)(m k:AV)(K:AV->Prop):Prop:=
 ∃b cs l x r,m=.mpt b/\k=.agg cs/\s.bs[b]? =some x/\x.lb? =some (mLB (skE 0 l) l.length)/\GI ks cs/\IP l/\s7 ks cs l=some r/\(∀y,r=some y->K (okR ok y true))/\(r=none->K (okR ok z false))
theorem CP{s:St}{o:Oper}{t:TypeId}{m k v:Operand}(ho:o.op=.mapUpdate t m k v)(hdn:o.dst=none){rm rk rv:Opd}(hm:opd m=some rm)(hk:opd k=some rk)(hv:opd v=some rv){kt et:TypeId}{ks:List FK}(ht:P.underlying t=some (.map kt et))(hkt:ff P kt=some ks){K:St->Prop}
  (h:GJ ks s (s.ev rm) (s.ev rk) (s.ev rv) K):OpS P o s K:=by
 have hd:∀c,o.op≠.defer c:=λc e=>by rw[ho] at e;cases e
 obtain⟨b,cs,l,x,hme,hke,hb,hx,hxc,hok,hl,hf,hvo,hK⟩:=h;refine OpS.skip _ hd hdn hK λE G a w hs=>?_;have hmv:=hs.ev hm;rw[hme] at hmv;have hkv:=hs.ev hk;rw[hke] at hkv;have hkv:=fw hok.1 hkv;have hvv:=fw hvo (hs.ev hv);obtain⟨h1,_,_⟩:=hs.qG hb hx;refine⟨G,_,?_,hs.xH hb hx hxc rfl rfl⟩;have e1:=hmv.bK.1;obtain⟨q,h2,h3⟩:=lG (P:=P) hkt hok w hl hf
 cases q with
 |some q=>cases h3
 |none=>
  have he:(skE 0 l).toArray.push {key:=.agg (cs.map n9).toArray,val:=vOf (s.ev rv),born:=l.length}=(skE 0 (l++[(cs,s.ev rv)])).toArray:=by
   rw[As,ZJ];simp
  simp only[vOf] at hkv;unfold execOp;simp only[ho,Instr.mapUpdate,e1,hkv,hvv,ya,run_underlying ht,yZ,aE h1 rfl,jD hkt hok,h2,bl h1,he];rfl
theorem Dw{s:St}{o:Oper}{t:TypeId}{m k:Operand}{ok:Bool}(ho:o.op=.lookup t m k ok){rm rk:Opd}(hm:opd m=some rm)(hk:opd k=some rk){kt et:TypeId}{ks:List FK}(ht:P.underlying t=some (.map kt et))(hkt:ff P kt=some ks)
  {i:TypeInfo} {zv:Value} {z:AV} (hi:P.info? et=some i) (hz:i.zero=some zv) (hzx:cH zv=some z) {K:St->Prop} (h:HH ks ok z s (s.ev rm) (s.ev rk) λr=>K (s.put o.dst r)):OpS P o s K:=by
 have hd:∀c,o.op≠.defer c:=λc e=>by rw[ho] at e;cases e
 have tup:∀(M:Hp) (σ:Nat->Nat) (nb:Nat) (x:AV) (v:Value) (b:Bool),RV M σ nb x v->RV M σ nb (.tup [x,.bool b]) (.tuple #[v,.bool b]):=λM σ nb x v b hx=>by
  refine .tup _ [v,.bool b] rfl λj hj u hu=>?_
  match j,hj with
  |0,_=>simp at hu;subst hu;exact hx
  |1,_=>simp at hu;subst hu;exact .flat (.bool b)
 have fin:∀(x:AV) (b:Bool),(∃v:Value,(∀(M:Hp) (σ:Nat->Nat) (nb:Nat),RV M σ nb x v)/\∀E G a w,RS E G s a w->(Instr.lookup t (a.eval m) (a.eval k) ok).run P w=.ok (if ok then .tuple #[v,.bool b] else v) w)->K (s.put o.dst (okR ok x b))->OpS P o s K:=λx b ⟨v,hv,hrun⟩ hK=>by
  cases ok with
  |true=>
   refine OpS.pure _ hd hK λE G a w hs=>⟨_,?_,tup _ _ _ _ _ _ (hv _ _ _)⟩;unfold execOp;simp only[ho,hrun E G a w hs,ya,yZ,if_true]
   rfl
  |false=>
   refine OpS.pure _ hd hK λE G a w hs=>⟨v,?_,hv _ _ _⟩;unfold execOp;simp only[ho,hrun E G a w hs,ya,yZ];rfl
 have hzv:∀(M:Hp) (σ:Nat->Nat) (nb:Nat),RV M σ nb z zv:=λM σ nb=>.flat (dW hzx);have hzr:∀w:World,(zeroValue et).run P w=.ok zv w:=λw=>by simp[zeroValue,typeInfo,hi,hz]
 obtain⟨b,cs,l,x,r,hme,hke,hb,hx,hok,hl,hf,hK1,hK2⟩:=h
 have hrun:∀E G a w,RS E G s a w->a.eval m=.map (some (G.σ b))/\a.eval k=.agg (cs.map n9).toArray/\w.heap[G.σ b]? =some (.map (skE 0 l).toArray l.length):=λE G a w hs=>by
  have hmv:=hs.ev hm;rw[hme] at hmv;have hkv:=hs.ev hk;rw[hke] at hkv;exact⟨hmv.bK.1,fw hok.1 hkv,(hs.qG hb hx).1⟩
 have hyo:∀y,r=some y->cM y=true:=λy hy=>by
  subst hy;clear hK1 hK2 hrun hx
  induction l with
  |nil=>cases hf
  |cons e l ih=>
   obtain⟨k',x'⟩:=e;simp only[s7] at hf;split at hf
   .cases hf;exact(hl _ (zW ..)).2
   .exact ih (λe he=>hl e (zR _ he)) hf
   .cases hf
 cases r with
 |some y=>
  refine fin y true ⟨vOf y,λM σ nb=>xg (hyo y rfl),λE G a w hs=>?_⟩ (hK1 y rfl);obtain⟨e1,e2,e3⟩:=hrun E G a w hs;obtain⟨q,h2,h3⟩:=lG (P:=P) hkt hok w hl hf
  cases q with
  |none=>cases h3
  |some q=>
   obtain⟨i',u⟩:=q;simp only[zM,zO] at h3;subst h3
   simp only[Instr.lookup,e1,e2,ya,run_underlying ht,yZ,aE e3 rfl,yb,jD hkt hok,h2]
 |none=>
  refine fin z false ⟨zv,hzv,λE G a w hs=>?_⟩ (hK2 rfl);obtain⟨e1,e2,e3⟩:=hrun E G a w hs;obtain⟨q,h2,h3⟩:=lG (P:=P) hkt hok w hl hf
  cases q with
  |some q=>cases h3
  |none=>simp only[Instr.lookup,e1,e2,ya,run_underlying ht,yZ,aE e3 rfl,yb,jD hkt hok,h2,hzr]
structure TR where
 key:ByteArray
 ids:List Int
 born:Nat
 B:Nat
 junk:List Value
 T:TypeId
namespace TR
def cap(r:TR):Nat:=r.ids.length+r.junk.length
def ae(r:TR):List Value:=r.ids.map (Value.int .i64)++r.junk
def val(r:TR):Value:=.slice (some ⟨r.B,0,none⟩) r.ids.length r.cap
def lit(r:TR):AV:=.lit (some ⟨r.B,0,none⟩) r.ids.length r.cap
def ent(r:TR):MapEntry:={key:=.string r.key,val:=r.val,born:=r.born}
def row(r:TR):Nat×Nat×Obj:=(r.B,r.B,.cells r.ae.toArray r.T (0,0))
end TR
structure ib(x:TB)(l:List TR):Prop where
 es:x.es=l.map TR.ent
 rows:∀r∈l,r.row∈x.rows
 jB:∀q∈x.rows,q.1=q.2.1
 nodK:(l.map TR.key).Nodup
 nodB:(l.map TR.B).Nodup
 cap:∀r∈l,r.cap<=9223372036854775807
structure fS(x:TB)(l:List TR)(r:TR):Prop where
 es:x.es=l.map TR.ent
 rows:∀q∈l,q.key≠r.key->q.row∈x.rows
 row:r.row∈x.rows
 jB:∀q∈x.rows,q.1=q.2.1
 nodK:(l.map TR.key).Nodup
 nodB:(l.map TR.B).Nodup
 new:∀q∈l,q.key≠r.key->q.B≠r.B
 cap:∀q∈l,q.cap<=9223372036854775807
 cap1:r.cap<=9223372036854775807
def cg:List TR->TR->Nat->List TR
 |[],r,c=>[{r with born:=c}]
 |q::l,r,c=>if q.key=r.key then {r with born:=q.born}::l else q::cg l r c
def mF(l:List TR)(k:ByteArray):List TR:=l.filter λq=>decide (q.key≠k)
theorem EM(k:ByteArray):(k==k)=true:=by
 rcases k with ⟨⟨l⟩⟩;show (Array.mk l==Array.mk l)=true;simp
theorem LA{k q:ByteArray}(h:k≠q):(k==q)=false:=by
 rcases k with ⟨⟨l⟩⟩;rcases q with ⟨⟨m⟩⟩;show (Array.mk l==Array.mk m)=false;simpa using h
theorem ow{α β:Type}(f:α->β):∀(l:List α) (i:Nat),(l.map f).eraseIdx i=(l.eraseIdx i).map f
 |[],_=>rfl
 |_::_,0=>rfl
 |x::l,i+1=>by simp only[zQ,List.eraseIdx_cons_succ,ow f l i]
def iv(k:ByteArray):List TR->Nat->Option (Nat×Value)
 |[],_=>none
 |q::l,j=>if q.key=k then some (j,q.val) else iv k l (j+1)
theorem ug(k:ByteArray):∀(l:List TR) (j:Nat),Instr.findNow .string (.string k) (l.map TR.ent) j=some (iv k l j)
 |[],j=>rfl
 |q::l,j=>by
  simp only[zQ,Instr.findNow,TR.ent,Instr.sameNow,iv]
  by_cases h:q.key=k
  .rw [if_pos h,h,EM]
  .rw [if_neg h,LA (λe=>h e.symm)];exact ug k l (j+1)
theorem jj{k:ByteArray}:∀{l:List TR} {j i:Nat} {v:Value},iv k l j=some (i,v)->∃q,l[i-j]? =some q/\j<=i/\q.key=k/\v=q.val/\∀i' q',i'<i-j->l[i']? =some q'->q'.key≠k
 |[],j,i,v,h=>by cases h
 |q::l,j,i,v,h=>by
  simp only[iv] at h;split at h
  .rename_i hk;cases h;exact⟨q,by simp,zG _,hk,rfl,λi' q' h=>by omega⟩
  .rename_i hk;obtain⟨q1,h1,h2,h3,h4,h5⟩:=jj h;refine⟨q1,by rw[show i-j=(i-(j+1))+1 by omega];simpa using h1,by omega,h3,h4,λi' q' h6 h7=>?_⟩
   cases i' with
   |zero=>simp at h7;subst h7;exact hk
   |succ i'=>exact h5 i' q' (by omega) (by simpa using h7)
theorem jl{k:ByteArray}:∀{l:List TR} {j:Nat},iv k l j=none->∀q∈l,q.key≠k
 |[],_,_,q,hq=>by cases hq
 |q::l,j,h,q',hq'=>by
  simp only[iv] at h;split at h
  .cases h
  .rename_i hk;rcases zI.1 hq' with rfl|hq'
   .exact hk
   .exact jl h q' hq'
theorem sP:∀{l:List TR} {r:TR} {c:Nat},(∀q∈l,q.key≠r.key)->cg l r c=l++[{r with born:=c}]
 |[],_,_,_=>rfl
 |q::l,r,c,h=>by
  rw[cg,if_neg (h q (zW ..)),sP λq' hq'=>h q' (zR _ hq')];rfl
theorem sO:∀{l:List TR} {r q:TR} {c i:Nat},l[i]? =some q->q.key=r.key->(∀i' q',i'<i->l[i']? =some q'->q'.key≠r.key)->cg l r c=l.set i {r with born:=q.born}
 |[],_,_,_,_,h,_,_=>by simp at h
 |p::l,r,q,c,0,h,hk,_=>by
  simp at h;subst h
  rw[cg,if_pos hk];rfl
 |p::l,r,q,c,i+1,h,hk,hn=>by
  rw[cg,if_neg (hn 0 p (by omega) rfl),sO (by simpa using h) hk λi' q' h1 h2=>hn (i'+1) q' (by omega) (by simpa using h2)]
  rfl
theorem kx{l:List TR}{r q:TR}{c:Nat}(h:q∈cg l r c)(hn:(l.map TR.key).Nodup):(q∈l/\q.key≠r.key)\/(∃n,q={r with born:=n}):=by
 induction l with
 |nil=>simp[cg] at h;exact .inr ⟨c,h⟩
 |cons p l ih=>
  rw[zQ,Zf] at hn;rw[cg] at h;split at h
  .rename_i hk;rcases zI.1 h with h|h
   .exact .inr ⟨_,h⟩
   .refine .inl ⟨zR _ h,λe=>hn.1 ?_⟩;rw[hk,<-e];exact ZX h
  .rename_i hk;rcases zI.1 h with h|h
   .subst h;exact .inl ⟨zW ..,hk⟩
   .rcases ih h hn.2 with h|h
    .exact .inl ⟨zR _ h.1,h.2⟩
    .exact .inr h
theorem CG{l:List TR}{r:TR}{c:Nat}(hn:(l.map TR.key).Nodup):((cg l r c).map TR.key).Nodup:=by
 induction l with
 |nil=>simp[cg]
 |cons p l ih=>
  have hn':=hn;rw[zQ,Zf] at hn;rw[cg];split
  .rename_i hk;rw[zQ];show (r.key::_).Nodup;rw[<-hk];exact hn'
  .rename_i hk;rw[zQ,Zf];refine⟨λh=>?_,ih hn.2⟩;obtain⟨q,h1,h2⟩:=zl.1 h;rcases kx h1 hn.2 with h3|⟨n,rfl⟩
   .exact hn.1 (by rw[<-h2];exact ZX h3.1)
   .exact hk h2.symm
theorem CH{l:List TR}{r:TR}{c:Nat}(hnk:(l.map TR.key).Nodup)(hn:(l.map TR.B).Nodup)(hr:∀q∈l,q.key≠r.key->q.B≠r.B):((cg l r c).map TR.B).Nodup:=by
 induction l with
 |nil=>simp[cg]
 |cons p l ih=>
  rw[zQ,Zf] at hn hnk;rw[cg];split
  .rename_i hk;rw[zQ,Zf];refine⟨λh=>?_,hn.2⟩;obtain⟨q,h1,h2⟩:=zl.1 h;exact hr q (zR _ h1) (λe=>hnk.1 (by rw[hk,<-e];exact ZX h1)) h2
  .rename_i hk;rw[zQ,Zf];refine⟨λh=>?_,ih hnk.2 hn.2 λq hq=>hr q (zR _ hq)⟩;obtain⟨q,h1,h2⟩:=zl.1 h;rcases kx h1 hnk.2 with h3|⟨n,rfl⟩
   .exact hn.1 (by rw[<-h2];exact ZX h3.1)
   .exact hr p (zW ..) hk h2.symm
theorem fS.put{x:TB}{l:List TR}{r:TR}(h:fS x l r){es':List MapEntry}{c':Nat}(he:es'=(cg l r x.c).map TR.ent):ib ⟨es',c',x.rows⟩ (cg l r x.c):=by
 refine⟨he,λq hq=>?_,h.jB,CG h.nodK,CH h.nodK h.nodB h.new,λq hq=>?_⟩
 .rcases kx hq h.nodK with h1|⟨n,rfl⟩
  .exact h.rows q h1.1 h1.2
  .exact h.row
 .rcases kx hq h.nodK with h1|⟨n,rfl⟩
  .exact h.cap q h1.1
  .exact h.cap1
theorem vF{α:Type}(f:TR->α)(l:List TR)(k:ByteArray):((mF l k).map f).Sublist (l.map f):=(List.filter_sublist).map f
theorem fS.del{x:TB}{l:List TR}{r:TR}(h:fS x l r):ib ⟨(mF l r.key).map TR.ent,x.c,x.rows⟩ (mF l r.key):=by
 refine⟨rfl,λq hq=>?_,h.jB,h.nodK.sublist (vF _ l _),h.nodB.sublist (vF _ l _),λq hq=>h.cap q (zp.1 hq).1⟩;obtain⟨h1,h2⟩:=zp.1 hq;exact h.rows q h1 (by simpa using h2)
theorem sR{l:List TR}{k:ByteArray}(h:∀q∈l,q.key≠k):mF l k=l:=yF.2 λq hq=>by simpa using h q hq
theorem sQ:∀{l:List TR} {k:ByteArray} {q:TR} {i:Nat},l[i]? =some q->q.key=k->(l.map TR.key).Nodup->mF l k=l.eraseIdx i
 |[],_,_,_,h,_,_=>by simp at h
 |p::l,k,q,0,h,hk,hn=>by
  simp at h;subst h;rw[zQ,Zf] at hn;rw[mF,Zv (by simpa using hk)]
  exact sR λq' hq' e=>hn.1 (by rw[hk,<-e];exact ZX hq')
 |p::l,k,q,i+1,h,hk,hn=>by
  rw[zQ,Zf] at hn;have h':l[i]? =some q:=by simpa using h
  have:p.key≠k:=λe=>hn.1 (by rw[e,<-hk];exact ZX (zE h'))
  rw[mF,yP (by simpa using this)]
  show p::mF l k=_;rw[sQ h' hk hn.2];rfl
section
variable{E:Entry}{G:Gh}{s:St}{a:Act}{w:World}{P:Program}
theorem RS.vG(h:RS E G s a w){b:Nat}{x:TB}(hb:s.bs[b]? =some (.tab x)):w.heap[G.σ b]? =some (.map x.es.toArray x.c)/\(∀p,G.cl p≠some (G.σ b))/\(E.FP (G.σ b)\/E.w.heap.size<=G.σ b):=
 h.sp.ob (G.σ b) _ (.inl ⟨b,x.lb,by simp[ag,hb,Box.lb?],rfl,rfl⟩)
theorem RS.qi(h:RS E G s a w){b:Nat}{x:TB}(hb:s.bs[b]? =some (.tab x)){j B:Nat}{o:Obj}(hj:(j,B,o)∈x.rows):w.heap[B]? =some o/\G.cl (.bx b j)=some B/\∀k,G.M B k=none:=
 h.sp.rows b x.lb (by simp[ag,hb,Box.lb?]) j B o hj
theorem RS.c9(h:RS E G s a w){b:Nat}{x:TB}(x':TB)(hb:s.bs[b]? =some (.tab x))(hr:∀q∈x'.rows,q∈x.rows):RS E G ⟨s.env,s.bs.set b (.tab x'),s.lo⟩ a (w.putObj (G.σ b) (.map x'.es.toArray x'.c)):=by
 obtain⟨h1,h2,h3⟩:=h.vG hb;have hlb:ag s.bs b=some x.lb:=by simp[ag,hb,Box.lb?]
 have hlt:G.σ b<w.heap.size:=(zi.1 h1).1;refine h.E6 (.map x'.es.toArray x'.c) h1 rfl h3 (by simp) (cx hb rfl rfl) ⟨λB o hs=>?_,λc z hc=>?_,λc c' z z' hc hc' e=>?_,h.sp.ds,λc z hc j B o hj=>?_⟩
 .rcases hs with ⟨c,z,hc,e,ho⟩|⟨hm,ho⟩
  .rw [aH hb rfl] at hc;split at hc
   .rename_i ec;cases hc;subst ec e ho;exact⟨World.putObj_heap_same hlt,h2,h3⟩
   .rename_i ec;obtain⟨h4,h5,h6⟩:=h.sp.ob B o (.inl ⟨c,z,hc,e,ho⟩);have hne:B≠G.σ b:=λe2=>ec (h.sp.inj c b z _ hc hlb (e.trans e2));exact⟨by rw[World.putObj_heap_other hne];exact h4,h5,h6⟩
  .obtain ⟨h4,h5,h6⟩:=h.sp.ob B o (.inr ⟨hm,ho⟩)
   have hne:B≠G.σ b:=λe2=>by
    rw[e2,h1,ho] at h4;cases h4
   exact⟨by rw[World.putObj_heap_other hne];exact h4,h5,h6⟩
 .rw [aH hb rfl] at hc;split at hc
  .cases hc;exact⟨(λ_ _ _ h=>by cases h),zJ _,λc hc=>absurd hc (Zm _)⟩
  .exact h.sp.base c z hc
 .rw [aH hb rfl] at hc hc';split at hc
  .rename_i ec;split at hc'
   .rename_i ec';rw[ec,ec']
   .rename_i ec';rw[ec] at e;exact absurd (h.sp.inj c' b z' _ hc' hlb e.symm) ec'
  .rename_i ec;split at hc'
   .rename_i ec';rw[ec'] at e;exact absurd (h.sp.inj c b z _ hc hlb e) ec
   .exact h.sp.inj c c' z z' hc hc' e
 .have key:∀y,ag s.bs c=some y->(j,B,o)∈y.rs->(w.putObj (G.σ b) (.map x'.es.toArray x'.c)).heap[B]? =some o/\G.cl (.bx c j)=some B/\∀k,G.M B k=none:=λy hy hjy=>by
   obtain⟨h4,h5,h6⟩:=h.sp.rows c y hy j B o hjy;have hne:B≠G.σ b:=λe2=>h2 _ (e2▸h5);exact⟨by rw[World.putObj_heap_other hne];exact h4,h5,h6⟩
  rw[aH hb rfl] at hc;split at hc
  .rename_i ec;cases hc;subst ec;exact key _ hlb (hr _ hj)
  .exact key z hc hj
theorem cT{kt:TypeId}(hkt:P.underlying kt=some .string)(e:Bool)(k:ByteArray)(w:World):(Instr.checkKey e 10000 kt (.string k)).run P w=.ok () w:=by
 show (Instr.checkKey e (9999+1) kt (.string k)).run P w=.ok () w;unfold Instr.checkKey;simp only[ya,run_underlying hkt,yZ];rfl
theorem dx{kt:TypeId}(hkt:P.underlying kt=some .string)(k:ByteArray)(l:List TR)(w:World):(Instr.findKey kt (.string k) (l.map TR.ent).toArray.toList).run P w=.ok (iv k l 0) w:=by
 simp only[Instr.findKey,ya,run_underlying hkt,yZ,ug];rfl
def uX(k:Int)(v:Value)(i:Nat):MapEntry:={key:=.int .i64 k,val:=v,born:=i}
structure vv(x:LB)(l:List (Int×AV)):Prop where
 mp:∃es:List MapEntry,x.mp=some (es,l.length)/\es.length=l.length/\∀i (e:Int×AV),l[i]? =some e->∃v,es[i]? =some (uX e.1 v i)/\FV x.M e.2 v
 rows:x.rows=[]
 n:x.n=0
theorem vv.nil:vv (yg []) []:=⟨⟨[],rfl,rfl,λi e h=>by simp at h⟩,rfl,rfl⟩
def amV:AV->Bool
 |.agg [.str _,.sl (.own _) _]=>false
 |.agg [.str _,.sl _ _]=>true
 |_=>false
theorem K7{M:Hp}{σ:Nat->Nat}{n:Nat}{x:AV}{v:Value}(hx:amV x=true)(h:RV M σ n x v):FV M x v:=by
 unfold amV at hx;split at hx
 .cases hx
 .cases h with
  |flat h=>exact h
  |agg _ vs hl h1 hv=>
   refine .agg _ vs hl h1 λj hj v hv'=>?_;have h2:=hv j hj v hv'
   match j,hj with
   |0,_=>cases h2 with|flat h2=>exact h2
   |1,_=>cases h2 with|flat h2=>exact h2
 .cases hx
def gi(es:List MapEntry)(n:Int)(j:Nat):Option (Nat×Value):=match es with
 |[]=>none
 |e::es=>match e.key with
  |.int _ m=>if n=m then some (j,e.val) else gi es n (j+1)
  |_=>gi es n (j+1)
theorem ui{ik:IntKind}(n:Int):∀(es:List MapEntry) (j:Nat),(∀e∈es,∃m:Int,e.key=.int .i64 m)->Instr.findNow (.int ik) (.int .i64 n) es j=some (gi es n j)
 |[],j,_=>rfl
 |e::es,j,h=>by
  obtain⟨m,hm⟩:=h e (by simp)
  have ih:=ui (ik:=ik) n es (j+1) λx hx=>h x (by simp[hx])
  obtain⟨key,val,born⟩:=e;simp only at hm;subst hm;simp only[Instr.findNow,Instr.sameNow,gi]
  by_cases h:n=m
  .subst h;simp
  .simp only[if_true,h,if_false];rw[show (n==m)=false by simpa using h]
   exact ih
theorem ER{l:List (Int×AV)}{es:List MapEntry}{M:Hp}(h2:es.length=l.length)(h3:∀i (e:Int×AV),l[i]? =some e->∃v,es[i]? =some (uX e.1 v i)/\FV M e.2 v):∀e∈es,∃m:Int,e.key=.int .i64 m:=λe he=>by
 obtain⟨i,hi⟩:=ZT he;have hlt:=(zB.1 hi).1;obtain⟨v,h4,_⟩:=h3 i _ (zA (by omega))
 rw[h4] at hi;cases hi;exact⟨_,rfl⟩
theorem w7{n:Int}:∀(es:List MapEntry) (j:Nat),(∀e∈es,∃m:Int,e.key=.int .i64 m/\m≠n)->gi es n j=none
 |[],_,_=>rfl
 |e::es,j,h=>by
  obtain⟨m,h1,h2⟩:=h e (by simp)
  rw[gi,h1];simp only;rw[if_neg (Ne.symm h2)];exact w7 es (j+1) λx hx=>h x (by simp[hx])
theorem w8{n:Int}{v:Value}{b:Nat}:∀(es:List MapEntry) (j i:Nat),es[i]? =some (uX n v b)->(∀k e,k<i->es[k]? =some e->∃m:Int,e.key=.int .i64 m/\m≠n)->gi es n j=some (i+j,v)
 |[],_,_,h,_=>by simp at h
 |e::es,j,0,h,_=>by
  simp at h;subst h
  simp[gi,uX]
 |e::es,j,i+1,h,hn=>by
  obtain⟨m,h1,h2⟩:=hn 0 e (by omega) rfl
  rw[gi,h1];simp only;rw[if_neg (Ne.symm h2),w8 es (j+1) i (by simpa using h) λk x hk hx=>hn (k+1) x (by omega) (by simpa using hx)]
  rw[show i+(j+1)=i+1+j by omega]
section
variable{E:Entry}{G:Gh}{s:St}{a:Act}{w:World}{P:Program}
theorem RS.IS(h:RS E G s a w){b:Nat}{bx:Box}{x x':LB}{es es':List MapEntry}{n n':Nat}(hb:s.bs[b]? =some bx)(hx:bx.lb? =some x)(hxc:bx.cs? =none)(hm:x.mp=some (es,n))(hm':x'.mp=some (es',n'))(hr':x'.rows=[])(hn':x'.n=0)(hM:x'.M.le G.M):
  RS E G ⟨s.env,s.bs.set b (.loop x'),s.lo⟩ a (w.putObj (G.σ b) (.map es'.toArray n')):=by
 have hlb:ag s.bs b=some x:=by simp[ag,hb,hx]
 have ho:x.obj=.map es.toArray n:=by unfold LB.obj;rw[hm]
 have ho':x'.obj=.map es'.toArray n':=by unfold LB.obj;rw[hm']
 obtain⟨h1,h2,h3⟩:=h.sp.ob (G.σ b) _ (.inl ⟨b,x,hlb,rfl,rfl⟩);rw[ho] at h1;have hlt:G.σ b<w.heap.size:=(zi.1 h1).1;have hy:(Box.loop x').lb? =some x':=rfl;have hrs:x'.rs=[]:=by unfold LB.rs;rw[hm',hr']
 refine h.E6 (.map es'.toArray n') h1 rfl h3 (by simp) (cx hb hxc rfl) ⟨λB o hs=>?_,λc z hc=>?_,λc c' z z' hc hc' e=>?_,h.sp.ds,λc z hc j B o hj=>?_⟩
 .rcases hs with ⟨c,z,hc,e,ho⟩|⟨hm,ho⟩
  .rw [aH hb hy] at hc;split at hc
   .rename_i ec;cases hc;subst ec e ho;exact⟨by rw[ho'];exact World.putObj_heap_same hlt,h2,h3⟩
   .rename_i ec;obtain⟨h4,h5,h6⟩:=h.sp.ob B o (.inl ⟨c,z,hc,e,ho⟩);have hne:B≠G.σ b:=λe2=>ec (h.sp.inj c b z _ hc hlb (e.trans e2));exact⟨by rw[World.putObj_heap_other hne];exact h4,h5,h6⟩
  .obtain ⟨h4,h5,h6⟩:=h.sp.ob B o (.inr ⟨hm,ho⟩)
   have hne:B≠G.σ b:=λe2=>by
    rw[e2,h1,ho] at h4;cases h4
   exact⟨by rw[World.putObj_heap_other hne];exact h4,h5,h6⟩
 .rw [aH hb hy] at hc;split at hc
  .cases hc;exact⟨hM,by rw[hn'];exact zJ _,λc hc=>by rw[hn'] at hc;exact absurd hc (Zm _)⟩
  .exact h.sp.base c z hc
 .rw [aH hb hy] at hc hc';split at hc
  .rename_i ec;split at hc'
   .rename_i ec';rw[ec,ec']
   .rename_i ec';rw[ec] at e;exact absurd (h.sp.inj c' b z' _ hc' hlb e.symm) ec'
  .rename_i ec;split at hc'
   .rename_i ec';rw[ec'] at e;exact absurd (h.sp.inj c b z _ hc hlb e) ec
   .exact h.sp.inj c c' z z' hc hc' e
 .rw [aH hb hy] at hc;split at hc
  .cases hc;rw[hrs] at hj;cases hj
  .obtain ⟨h4,h5,h6⟩:=h.sp.rows c z hc j B o hj;have hne:B≠G.σ b:=λe2=>h2 _ (e2▸h5);exact⟨by rw[World.putObj_heap_other hne];exact h4,h5,h6⟩
end
inductive TbE where
 |get
 |put
 |del
 |clr
 |Dx
 |C1
 |Dg
deriving Inhabited
def tbK(e:TbE)(ae:List AV)(s:St)(d:Option Nat)(K:St->Prop):Prop:=
 match e with
 |.get=>∃b x l key,ae=[.mpt b,.str key]/\s.bs[b]? =some (.tab x)/\ib x l/\(∀r∈l,r.key=key->K (s.put d r.lit))/\((∀r∈l,r.key≠key)->K (s.put d (.sl .full [])))
 |.put=>∃b x l r,ae=[.mpt b,.str r.key,r.lit]/\s.bs[b]? =some (.tab x)/\fS x l r/\∀x',ib x' (cg l r x.c)->K ⟨s.env,s.bs.set b (.tab x'),s.lo⟩
 |.del=>∃b x l r,ae=[.mpt b,.str r.key]/\s.bs[b]? =some (.tab x)/\fS x l r/\∀x',ib x' (mF l r.key)->K ((⟨s.env,s.bs.set b (.tab x'),s.lo⟩:St).put d (.tup []))
 |.clr=>∃b x,ae=[.mpt b]/\s.bs[b]? =some (.tab x)/\(∀q∈x.rows,q.1=q.2.1)/\∀x',ib x' []->K ((⟨s.env,s.bs.set b (.tab x'),s.lo⟩:St).put d (.tup []))
 |.Dx=>∃b x l k v i,ae=[.mpt b,.int .i64 k]/\s.bs[b]? =some (.loop x)/\vv x l/\l[i]? =some (k,v)/\(∀(j:Nat) (e:Int×AV),j<i->l[j]? =some e->e.1≠k)/\K (s.put d v)
 |.C1=>∃b x l k v,ae=[.mpt b,.int .i64 k,v]/\s.bs[b]? =some (.loop x)/\vv x l/\(∀e∈l,e.1≠k)/\amV v=true/\∀x',vv x' (l++[(k,v)])->K ⟨s.env,s.bs.set b (.loop x'),s.lo⟩
 |.Dg=>∃b x l,ae=[.mpt b]/\s.bs[b]? =some (.loop x)/\vv x l/\K (s.put d (.int .i64 l.length))
theorem Gw{e:TbE}{ae:List AV}{s:St}{d:Option Nat}{K K':St->Prop}(hk:∀s,K s->K' s)(h:tbK e ae s d K):tbK e ae s d K':=by
 cases e with
 |get=>
  obtain⟨b,x,l,key,h1,h2,h3,h4,h5⟩:=h
  exact⟨b,x,l,key,h1,h2,h3,λr hr hkr=>hk _ (h4 r hr hkr),λhn=>hk _ (h5 hn)⟩
 |put=>
  obtain⟨b,x,l,r,h1,h2,h3,h4⟩:=h
  exact⟨b,x,l,r,h1,h2,h3,λx' hx'=>hk _ (h4 x' hx')⟩
 |del=>
  obtain⟨b,x,l,r,h1,h2,h3,h4⟩:=h
  exact⟨b,x,l,r,h1,h2,h3,λx' hx'=>hk _ (h4 x' hx')⟩
 |clr=>
  obtain⟨b,x,h1,h2,h3,h4⟩:=h
  exact⟨b,x,h1,h2,h3,λx' hx'=>hk _ (h4 x' hx')⟩
 |Dx=>
  obtain⟨b,x,l,k,v,i,h1,h2,h3,h4,h5,h6⟩:=h
  exact⟨b,x,l,k,v,i,h1,h2,h3,h4,h5,hk _ h6⟩
 |C1=>
  obtain⟨b,x,l,k,v,h1,h2,h3,h4,h5,h6⟩:=h
  exact⟨b,x,l,k,v,h1,h2,h3,h4,h5,λx' hx'=>hk _ (h6 x' hx')⟩
 |Dg=>
  obtain⟨b,x,l,h1,h2,h3,h4⟩:=h;exact⟨b,x,l,h1,h2,h3,hk _ h4⟩
theorem xt{s:St}{o:Oper}{t:TypeId}{m k:Operand}(ho:o.op=.lookup t m k false){rm rk:Opd}(hm:opd m=some rm)(hk:opd k=some rk){kt et:TypeId}(ht:P.underlying t=some (.map kt et))(hkt:P.underlying kt=some .string)
  {i:TypeInfo} {zv:Value} (hi:P.info? et=some i) (hz:i.zero=some zv) (hzx:cH zv=some (.sl .full [])) {K:St->Prop} (h:tbK .get [s.ev rm,s.ev rk] s o.dst K):OpS P o s K:=by
 have hd:∀c,o.op≠.defer c:=λc e=>by rw[ho] at e;cases e
 obtain⟨b,x,l,key,he,hb,hx,hK1,hK2⟩:=h;simp only[yA,and_true] at he;obtain⟨hme,hke⟩:=he;have hzr:∀w:World,(zeroValue et).run P w=.ok zv w:=λw=>by simp[zeroValue,typeInfo,hi,hz]
 have hrun:∀E G a w,RS E G s a w->a.eval m=.map (some (G.σ b))/\a.eval k=.string key/\w.heap[G.σ b]? =some (.map (l.map TR.ent).toArray x.c):=λE G a w hs=>by
  have hmv:=hs.ev hm;rw[hme] at hmv;have hkv:=hs.ev hk;rw[hke] at hkv;exact⟨hmv.bK.1,hkv.cG.1,by rw[<-hx.es];exact(hs.vG hb).1⟩
 cases hf:iv key l 0 with
 |some q=>
  obtain⟨j,v⟩:=q;obtain⟨r,h1,_,h3,rfl,_⟩:=jj hf;refine OpS.pure _ hd (hK1 r (zE h1) h3) λE G a w hs=>⟨r.val,?_,.flat (.lit _ _ _)⟩;obtain⟨e1,e2,e3⟩:=hrun E G a w hs;unfold execOp
  simp[ho,Instr.lookup,e1,e2,run_underlying ht,aE e3 rfl,cT hkt,dx hkt,hf]
 |none=>
  refine OpS.pure _ hd (hK2 (jl hf)) λE G a w hs=>⟨zv,?_,.flat (dW hzx)⟩;obtain⟨e1,e2,e3⟩:=hrun E G a w hs;unfold execOp;simp[ho,Instr.lookup,e1,e2,run_underlying ht,aE e3 rfl,cT hkt,dx hkt,hf,hzr]
theorem xq{s:St}{o:Oper}{t:TypeId}{m k v:Operand}(ho:o.op=.mapUpdate t m k v)(hdn:o.dst=none){rm rk rv:Opd}(hm:opd m=some rm)(hk:opd k=some rk)(hv:opd v=some rv){kt et:TypeId}(ht:P.underlying t=some (.map kt et))(hkt:P.underlying kt=some .string){K:St->Prop}
  (h:tbK .put [s.ev rm,s.ev rk,s.ev rv] s o.dst K):OpS P o s K:=by
 have hd:∀c,o.op≠.defer c:=λc e=>by rw[ho] at e;cases e
 obtain⟨b,x,l,r,he,hb,hx,hK⟩:=h;simp only[yA,and_true] at he;obtain⟨hme,hke,hve⟩:=he;have hlen:l.length=(l.map TR.ent).toArray.size:=by simp
 cases hf:iv r.key l 0 with
 |none=>
  have hn:=jl hf
  have hes:(l.map TR.ent).toArray.push {key:=.string r.key,val:=r.val,born:=x.c}=((cg l r x.c).map TR.ent).toArray:=by
   rw[sP hn];simp[TR.ent,TR.val,TR.cap]
  refine OpS.skip _ hd hdn (hK ⟨(cg l r x.c).map TR.ent,x.c+1,x.rows⟩ (hx.put rfl)) λE G a w hs=>⟨G,_,?_,hs.c9 _ hb λq hq=>hq⟩;have hmv:=hs.ev hm;rw[hme] at hmv;have e1:=hmv.bK.1;have hkv:=hs.ev hk;rw[hke] at hkv;have e2:=hkv.cG.1;have hvv:=hs.ev hv;rw[hve] at hvv;have e3:a.eval v=r.val:=hvv.mi;have h1:=(hs.vG hb).1;rw[hx.es] at h1;unfold execOp;simp only[ho,Instr.mapUpdate,e1,e2,e3,ya,run_underlying ht,yZ,aE h1 rfl,cT hkt,dx hkt,hf,bl h1,hes]
  rfl
 |some q=>
  obtain⟨j,v'⟩:=q;obtain⟨q,h1,_,h3,rfl,h5⟩:=jj hf;rw[yE] at h1 h5
  have hjl:j<l.length:=by
   rcases zu j l.length with h|h
   .exact h
   .rw [zS h] at h1;cases h1
  have hkey:((((l.map TR.ent).toArray[j]?).map (·.key)).getD (.string r.key))=.string r.key:=by
   simp[h1,TR.ent,h3]
  have hes:(l.map TR.ent).toArray.modify j (λe=>{e with key:=.string r.key,val:=r.val})=((cg l r x.c).map TR.ent).toArray:=by
   rw[sO h1 h3 h5];apply Array.ext
   .simp
   .intro i hi1 hi2;simp only[Array.getElem_modify,List.getElem_toArray,ZE,List.getElem_set];split
    .rename_i e;subst e;have:=(zB.1 h1).2;rw[this];rfl
    .rfl
  have hstay:∀w':World,(Instr.keyThatStays (.string r.key) (.string r.key)).run P w'=.ok (.string r.key) w':=λw'=>by
   simp[Instr.keyThatStays,Instr.sameBits,EM]
  refine OpS.skip _ hd hdn (hK ⟨(cg l r x.c).map TR.ent,x.c,x.rows⟩ (hx.put rfl)) λE G a w hs=>⟨G,_,?_,hs.c9 _ hb λq hq=>hq⟩;have hmv:=hs.ev hm;rw[hme] at hmv;have e1:=hmv.bK.1;have hkv:=hs.ev hk;rw[hke] at hkv;have e2:=hkv.cG.1;have hvv:=hs.ev hv;rw[hve] at hvv;have e3:a.eval v=r.val:=hvv.mi;have h1:=(hs.vG hb).1;rw[hx.es] at h1;unfold execOp;simp only[ho,Instr.mapUpdate,e1,e2,e3,ya,run_underlying ht,yZ,aE h1 rfl,cT hkt,dx hkt,hf,hkey,hstay,bl h1,hes];rfl
end
section
variable{P:Program}
theorem xu{s:St}{o:Oper}{t u:TypeId}{m k:Operand}(ho:o.op=.call {callee:=.builtin .delete,args:=#[m,k],argTypes:=#[t,u]}){rm rk:Opd}(hm:opd m=some rm)(hk:opd k=some rk){kt et:TypeId}(ht:P.underlying t=some (.map kt et))(hkt:P.underlying kt=some .string){K:St->Prop}
  (h:tbK .del [s.ev rm,s.ev rk] s o.dst K):OpS P o s K:=by
 have hd:∀c,o.op≠.defer c:=λc e=>by rw[ho] at e;cases e
 obtain⟨b,x,l,r,he,hb,hx,hK⟩:=h;simp only[yA,and_true] at he;obtain⟨hme,hke⟩:=he;refine OpS.val _ _ hd (hK _ hx.del) λE G a w hs=>?_;have hmv:=hs.ev hm;rw[hme] at hmv;have e1:=hmv.bK.1;have hkv:=hs.ev hk;rw[hke] at hkv;have e2:=hkv.cG.1;have h1:=(hs.vG hb).1;rw[hx.es] at h1;refine⟨.tuple #[],G,_,?_,hs.c9 ⟨(mF l r.key).map TR.ent,x.c,x.rows⟩ hb λq hq=>hq,.tup [] [] rfl λj hj=>by cases hj⟩
 cases hf:iv r.key l 0 with
 |none=>
  unfold execOp
  simp[ho,resolve,invoke,builtin,Builtin.delete_,e1,e2,run_underlying ht,aE h1 rfl,cT hkt,dx hkt,hf,bl h1,sR (jl hf)]
 |some q=>
  obtain⟨j,v'⟩:=q;obtain⟨q,h2,_,h3,rfl,h5⟩:=jj hf;rw[yE] at h2
  have hes:(l.map TR.ent).eraseIdx j=(mF l r.key).map TR.ent:=by
   rw[sQ h2 h3 hx.nodK,<-ow]
  unfold execOp;simp[ho,resolve,invoke,builtin,Builtin.delete_,e1,e2,run_underlying ht,aE h1 rfl,cT hkt,dx hkt,hf,bl h1,hes]
theorem xw{s:St}{o:Oper}{t:TypeId}{m:Operand}(ho:o.op=.call {callee:=.builtin .clear,args:=#[m],argTypes:=#[t]}){rm:Opd}(hm:opd m=some rm){kt et:TypeId}(ht:P.underlying t=some (.map kt et)){K:St->Prop}
  (h:tbK .clr [s.ev rm] s o.dst K):OpS P o s K:=by
 have hd:∀c,o.op≠.defer c:=λc e=>by rw[ho] at e;cases e
 obtain⟨b,x,he,hb,hj,hK⟩:=h;simp only[yA,and_true] at he;refine OpS.val _ _ hd (hK ⟨[],x.c,[]⟩ ⟨rfl,(λ_ h=>by cases h),(λ_ h=>by cases h),List.nodup_nil,List.nodup_nil,(λ_ h=>by cases h)⟩) λE G a w hs=>?_
 have hmv:=hs.ev hm;rw[he] at hmv;have e1:=hmv.bK.1;have h1:=(hs.vG hb).1;refine⟨.tuple #[],G,_,?_,hs.c9 ⟨[],x.c,[]⟩ hb (λq hq=>by cases hq),.tup [] [] rfl λj hj=>by cases hj⟩
 unfold execOp;simp[ho,resolve,invoke,builtin,Builtin.clear_,e1,run_underlying ht,aE h1 rfl,bl h1]
theorem pq{kt:TypeId}{ik:IntKind}(hkt:P.underlying kt=some (.int ik))(n:Int)(es:List MapEntry)(h:∀e∈es,∃m:Int,e.key=.int .i64 m)(w:World):(Instr.findKey kt (.int .i64 n) es.toArray.toList).run P w=.ok (gi es n 0) w:=by
 simp only[Instr.findKey,ya,run_underlying hkt,yZ,ui n es 0 h];rfl
theorem Cv{s:St}{o:Oper}{t:TypeId}{m k:Operand}(ho:o.op=.lookup t m k false){rm rk:Opd}(hm:opd m=some rm)(hk:opd k=some rk){kt et:TypeId}{ik:IntKind}(ht:P.underlying t=some (.map kt et))(hkt:P.underlying kt=some (.int ik)){K:St->Prop}
  (h:tbK .Dx [s.ev rm,s.ev rk] s o.dst K):OpS P o s K:=by
 have hd:∀c,o.op≠.defer c:=λc e=>by rw[ho] at e;cases e
 obtain⟨b,x,l,n,y,i,he,hb,hx,hi,hno,hK⟩:=h;simp only[yA,and_true] at he;obtain⟨hme,hke⟩:=he;obtain⟨es,c1,c2,c3⟩:=hx.mp;obtain⟨v,e4,e5⟩:=c3 i _ hi
 have hf:gi es n 0=some (i,v):=by
  have:=w8 es 0 i e4 λk e hk he=>by
   have hlt:=(zB.1 he).1;obtain⟨v',e6,_⟩:=c3 k _ (zA (by omega))
   rw[e6] at he;cases he;exact⟨_,rfl,hno k _ hk (zA (by omega))⟩
  rwa [Zi] at this
 refine OpS.pure _ hd hK λE G a w hs=>⟨v,?_,.flat (e5.mono (hs.sp.base b x (by simp[ag,hb,Box.lb?])).1)⟩
 have hmv:=hs.ev hm;rw[hme] at hmv;have e1:=hmv.bK.1;have hkv:=hs.ev hk;rw[hke] at hkv;have e2:=hkv.aA
 have e3:w.heap[G.σ b]? =some (.map es.toArray l.length):=by
  have:=(hs.sp.ob (G.σ b) x.obj (.inl ⟨b,x,by simp[ag,hb,Box.lb?],rfl,rfl⟩)).1
  rw[this];unfold LB.obj;rw[c1]
 have hfk:=pq (P:=P) hkt n es (ER c2 c3) w;rw[hf] at hfk;unfold execOp;simp only[ho,Instr.lookup,e1,e2,ya,run_underlying ht,yZ,aE e3 rfl,yb,aX hkt,hfk];rfl
theorem Cs{s:St}{o:Oper}{t:TypeId}{m k v:Operand}(ho:o.op=.mapUpdate t m k v)(hdn:o.dst=none){rm rk rv:Opd}(hm:opd m=some rm)(hk:opd k=some rk)(hv:opd v=some rv){kt et:TypeId}{ik:IntKind}(ht:P.underlying t=some (.map kt et))(hkt:P.underlying kt=some (.int ik)){K:St->Prop}
  (h:tbK .C1 [s.ev rm,s.ev rk,s.ev rv] s o.dst K):OpS P o s K:=by
 have hd:∀c,o.op≠.defer c:=λc e=>by rw[ho] at e;cases e
 obtain⟨b,x,l,n,y,he,hb,hx,hno,hy,hK⟩:=h;simp only[yA,and_true] at he;obtain⟨hme,hke,hve⟩:=he;obtain⟨es,c1,c2,c3⟩:=hx.mp
 have hf:gi es n 0=none:=w7 es 0 λe he=>by
  obtain⟨k,hk⟩:=ZT he;have hlt:=(zB.1 hk).1;obtain⟨v',e6,_⟩:=c3 k _ (zA (by omega))
  rw[e6] at hk;cases hk;exact⟨_,rfl,hno _ (zd (by omega))⟩
 intro E G a w rd nn next Q hs hdst hnext
 have hmv:=hs.ev hm;rw[hme] at hmv;have e1:=hmv.bK.1;have hkv:=hs.ev hk;rw[hke] at hkv;have e2:=hkv.aA;have hvv:=hs.ev hv;rw[hve] at hvv;have hlb:ag s.bs b=some x:=by simp[ag,hb,Box.lb?]
 have e3:w.heap[G.σ b]? =some (.map es.toArray l.length):=by
  have:=(hs.sp.ob (G.σ b) x.obj (.inl ⟨b,x,hlb,rfl,rfl⟩)).1;rw[this];unfold LB.obj;rw[c1]
 have hfk:=pq (P:=P) hkt n es (ER c2 c3) w;rw[hf] at hfk;obtain⟨es',hes'⟩:∃es',es'=es++[uX n (a.eval v) l.length]:=⟨_,rfl⟩;have hpush:es.toArray.push {key:=.int .i64 n,val:=a.eval v,born:=l.length}=es'.toArray:=by rw[hes'];simp[uX]
 have hrun:(execOp a.eval o).run P w=.ok .skip (w.putObj (G.σ b) (.map es'.toArray (l.length+1))):=by
  unfold execOp;simp only[ho,Instr.mapUpdate,e1,e2,ya,run_underlying ht,yZ,aE e3 rfl,aX hkt,hfk,bl e3,hpush];rfl
 obtain⟨x',hx'⟩:∃x',x'=(⟨G.M,λ_=>0,0,default,some (es',l.length+1),[]⟩:LB):=⟨_,rfl⟩;have hM:=(hs.sp.base b x hlb).1
 have hok:vv x' (l++[(n,y)]):=by
  rw[hx'];refine⟨⟨es',by simp,by rw[hes'];simp[c2],λi e hi=>?_⟩,rfl,rfl⟩
  rcases zu i l.length with h1|h1
  .rw [zK h1] at hi;obtain⟨u,e4,e5⟩:=c3 i e hi;exact⟨u,by rw[hes',zK (by omega)];exact e4,e5.mono hM⟩
  .rw [za h1] at hi
   have h2:i=l.length:=by
    rcases Nat.eq_or_lt_of_le h1 with h2|h2
    .exact h2.symm
    .rw [zS (by simp;omega)] at hi;cases hi
   subst h2;simp at hi;subst hi;exact⟨a.eval v,by rw[hes',za (by omega),c2];simp,K7 hy hvv⟩
 have hrs:=hs.IS (x':=x') (es':=es') (n':=l.length+1) hb rfl rfl c1 (by rw[hx']) (by rw[hx']) (by rw[hx']) (by rw[hx'];exact λB o k hh=>hh)
 refine⟨λ_ _=>trivial,?_⟩;rw[Oper.semAt_eq _ _ _ hd,hrun];show next (a.put o.dst undef) _
 rw[hdn];exact hnext _ G a _ (hK x' hok) hrs rfl
theorem Cu{s:St}{o:Oper}{x:Operand}{t:Nat}(ho:o.op=.call {callee:=.builtin .len,args:=#[x],argTypes:=#[t]}){rx:Opd}(hx:opd x=some rx){kt et:TypeId}(ht:P.underlying t=some (.map kt et)){K:St->Prop}(h:tbK .Dg [s.ev rx] s o.dst K):OpS P o s K:=by
 have hd:∀c,o.op≠.defer c:=λc e=>by rw[ho] at e;cases e
 obtain⟨b,y,l,he,hb,hy,hK⟩:=h;simp only[yA,and_true] at he;obtain⟨es,c1,c2,c3⟩:=hy.mp;refine OpS.pure _ hd hK λE G a w hs=>⟨_,?_,.flat (.int _ _)⟩;have hmv:=hs.ev hx;rw[he] at hmv;have e1:=hmv.bK.1
 have e3:w.heap[G.σ b]? =some (.map es.toArray l.length):=by
  have:=(hs.sp.ob (G.σ b) y.obj (.inl ⟨b,y,by simp[ag,hb,Box.lb?],rfl,rfl⟩)).1
  rw[this];unfold LB.obj;rw[c1]
 rw[dM P _ o ho];simp[Builtin.len_,run_underlying ht,e1,aE e3 rfl,goInt,c2]
end
inductive Eff where
 |sk (z:Nat)
 |uV (z:Nat)
 |slN
 |mkM
 |GK
 |getM (ok:Bool) (zx:AV)
 |mkB (z:Nat) (zx:AV)
 |A4 (neg:Bool)
 |KL (zx:AV)
 |J6
 |bsR (z:Nat)
 |Kc (ks:List FK)
 |KI (ks:List FK) (ok:Bool) (zx:AV)
 |tab (e:TbE)
deriving Inhabited
def Jd(s:St)(d:Option Nat)(K:St->Prop):Prop:=K (St.put ⟨s.env,s.bs++[.mp []],s.lo⟩ d (.mpt s.bs.length))
def CO(x n:AV)(s:St)(d:Option Nat)(K:St->Prop):Prop:=
 match x,n with
 |.sl .full [],.int _ n=>n=0/\K (s.put d (.sl .full []))
 |_,_=>False
def qW(e:Eff)(ae:List AV)(s:St)(d:Option Nat)(K:St->Prop):Prop:=
 match e,ae with
 |.sk z,[x,y]=>sk z s x y λr s'=>K (s'.put d r)
 |.uV z,[x,y]=>uV z s x y λr s'=>K (s'.put d r)
 |.slN,[x,n]=>CO x n s d K
 |.mkM,[]=>Jd s d K
 |.mkM,[.int _ _]=>Jd s d K
 |.GK,[m,k,v]=>s9 s m k v K
 |.getM ok zx,[m,k]=>ue ok zx s m k λr=>K (s.put d r)
 |.mkB z zx,[l,c]=>mkB z zx s l c λr s'=>K (s'.put d r)
 |.KL zx,[m,k]=>um zx s m k λr s'=>K (s'.put d r)
 |.J6,[m,j,v]=>sV s m j v K
 |.bsR z,ae=>Jy z ae s λr s'=>K (s'.put d r)
 |.A4 neg,[.sl _ l]=>(l≠[]->K (s.put d (.bool (bU neg false))))/\(l=[]->∀b,K (s.put d (.bool (bU neg b))))
 |.Kc ks,[m,k,v]=>GJ ks s m k v K
 |.KI ks ok zx,[m,k]=>HH ks ok zx s m k λr=>K (s.put d r)
 |.tab e,ae=>tbK e ae s d K
 |_,_=>False
theorem qV{z:Nat}{bs:List Box}{y:AV}{K K':Nat->List AV->Prop}(hk:∀n ys,K n ys->K' n ys)(h:o6 z bs y K):o6 z bs y K':=by
 obtain⟨n,ys,h1,h2⟩:=EF h;unfold o6 at h1|-;split at h1
 .obtain ⟨h3,rfl,rfl⟩:=h1;exact⟨h3,hk _ _ h2⟩
 .split at h1
  .obtain ⟨h3,rfl,rfl⟩:=h1;exact⟨h3,hk _ _ h2⟩
  .exact h1.elim
 .exact h1.elim
theorem ie{bs:List Box}{x:AV}{K K':Nat->Nat->List AV->Option Nat->Prop}(hk:∀m k cs ob,K m k cs ob->K' m k cs ob)(h:qj bs x K):qj bs x K':=by
 unfold qj at h|-;split at h
 .exact hk _ _ _ _ h
 .split at h
  .exact hk _ _ _ _ h
  .exact h
 .exact h
theorem FI{e:Eff}{ae:List AV}{s:St}{d:Option Nat}{K K':St->Prop}(hk:∀s,K s->K' s)(h:qW e ae s d K):qW e ae s d K':=by
 unfold qW at h|-;split at h
 .exact ie (λm k cs ob h=>qV (λn ys h=>⟨h.1,λk' hk'=>hk _ (h.2 k' hk')⟩) h) h
 .unfold uV at h|-;split at h
  .exact ie (λm k cs ob h=>⟨h.1,λk' hk'=>hk _ (h.2 k' hk')⟩) h
  .exact h
 .unfold CO at h|-;split at h
  .exact ⟨h.1,hk _ h.2⟩
  .exact h
 .exact hk _ h
 .exact hk _ h
 .unfold s9 at h|-;split at h
  .split at h
   .exact ⟨h.1,hk _ h.2⟩
   .exact ⟨h.1,hk _ h.2⟩
   .exact h
  .exact h
 .unfold ue at h|-;split at h
  .split at h
   .split at h
    .exact ⟨h.1,hk _ h.2⟩
    .exact hk _ h
   .split at h
    .exact ⟨h.1,hk _ h.2⟩
    .exact hk _ h
   .exact h
  .exact hk _ h
  .exact h
 .unfold mkB at h|-;split at h
  .exact ⟨h.1,hk _ h.2⟩
  .exact h
 .unfold um at h|-;split at h
  .split at h
   .exact ⟨h.1,hk _ h.2⟩
   .exact h
  .exact h
 .unfold sV at h|-;split at h
  .split at h
   .split at h
    .exact ⟨h.1,hk _ h.2⟩
    .exact h
   .exact h
  .exact h
 .exact ⟨h.1,hk _ h.2⟩
 .exact ⟨λe=>hk _ (h.1 e),λe b=>hk _ (h.2 e b)⟩
 .obtain ⟨b,cs,l,x,h1,h2,h3,h4,h5,h6,h7,h8,h9,h⟩:=h;exact⟨b,cs,l,x,h1,h2,h3,h4,h5,h6,h7,h8,h9,hk _ h⟩
 .obtain ⟨b,cs,l,x,r,h1,h2,h3,h4,h5,h6,h7,h8,h9⟩:=h;exact⟨b,cs,l,x,r,h1,h2,h3,h4,h5,h6,h7,λy e=>hk _ (h8 y e),λe=>hk _ (h9 e)⟩
 .exact Gw hk h
 .exact h
end
end Go.AM
