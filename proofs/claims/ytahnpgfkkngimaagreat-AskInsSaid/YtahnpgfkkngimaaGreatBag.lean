/-
  Texts of this aQ joined (wip/gen/bundle.py),those declarations only that are needed:AmE. By an AI agent.
-/
import Derived.Test.YtahnpgfkkngimaaGreatBaf
set_option linter.unusedSimpArgs false
set_option linter.unusedVariables false
namespace Go.AM
open Go.CK Go.RowKit
theorem OpS.ex{P:Program}{o:Oper}{s:St}{K:St->Prop}{ι:Type}(C:ι->Prop)(x:ι->AV)(s':ι->St)(hd:∀c,o.op≠.defer c)(hK:∀i,C i->K ((s' i).put o.dst (x i)))
  (h:∀E G a w,RS E G s a w->∃i v G' w',C i/\(execOp a.eval o).run P w=.ok (.value v) w'/\RS E G' (s' i) a w'/\RV G'.M G'.σ (s' i).bs.length (x i) v):OpS P o s K:=by
 intro E G a w rd n next Q hs hdst hnext
 obtain⟨i,v,G',w',hC,h1,h2,h3⟩:=h E G a w hs;refine⟨λ_ _=>trivial,?_⟩;rw[Oper.semAt_eq _ _ _ hd,h1];exact hnext _ G' _ w' (hK i hC) (h2.J5 hdst h3) (put_defers _ _ _)
def cellsOf:List AV->List AV
 |[]=>[]
 |x::l=>x.cells++cellsOf l
theorem bA{z:Nat}:∀{l:List AV},(∀y∈l,y.cells.length=z)->(cellsOf l).length=l.length*z
 |[],_=>by simp[cellsOf]
 |x::l,h=>by
  rw[cellsOf,ZC,h x (by simp),bA λy hy=>h y (by simp[hy]),ZX,Nat.succ_mul,Nat.add_comm]
theorem jb{z:Nat}:∀{l:List AV},(∀y∈l,y.cells.length=z)->∀(i:Nat) (hi:i<l.length) (j:Nat),j<z->(cellsOf l)[i*z+j]? =(l[i].cells)[j]?
 |[],_,i,hi,_,_=>by cases hi
 |x::l,h,0,_,j,hj=>by
  have hx:=h x (by simp)
  simp only[cellsOf,Nat.zero_mul,YG,YP]
  rw[ZK (by omega)]
 |x::l,h,i+1,hi,j,hj=>by
  have hx:=h x (by simp)
  simp only[cellsOf,Yj];rw[ZZ (by rw[hx,Nat.succ_mul];omega),hx,show (i+1)*z+j-z=i*z+j by rw[Nat.succ_mul];omega]
  exact jb (λy hy=>h y (by simp[hy])) i (by simpa using hi) j hj
theorem nF:∀(l m:List AV),cellsOf (l++m)=cellsOf l++cellsOf m
 |[],m=>rfl
 |x::l,m=>by rw[Ze,cellsOf,cellsOf,nF l m,Zg]
theorem eS.at_{M:Hp}{z:Nat}{l:List AV}{us:List Value}(h:eS M z l us)(j:Nat)(hj:j<(cellsOf l).length)(u:Value)(hu:us[j]? =some u):FV M (cellsOf l)[j] u:=by
 have hz:∀y∈l,y.cells.length=z:=λy hy=>by
  obtain⟨i,hi,rfl⟩:=Yb.1 hy;exact(h.2 i hi).1
 have hl:=bA hz
 have hz0:0<z:=by
  rcases Nat.eq_zero_or_pos z with h0|h0
  .subst h0;omega
  .exact h0
 have hi:j/z<l.length:=(Yy hz0).2 (by omega)
 have hr:=Xf j hz0;have he:j/z*z+j %z=j:=by have:=XR j z;rw[Xa] at this;exact this
 obtain⟨a1,a2⟩:=h.2 _ hi;obtain⟨u',b1,_,b3⟩:=a2 (j %z) (by omega)
 rw[he,hu] at b1;cases b1;have hg:=jb hz (j/z) hi (j %z) hr;rw[he,ZA hj,ZA (by omega)] at hg
 simp only[ZN] at hg;rw[hg];exact b3
section
variable{E:Entry}{G:Gh}{s:St}{a:Act}{w:World}
theorem Fl{w:World}{B:Nat}{o:Obj}(h:w.heap[B]? =some o)(hk:o.isCells=false)(i:Nat):w.cell? ⟨B,i,none⟩=none:=by
 simp only[World.cell?,h];cases o<;>first|rfl|cases hk
theorem RS.Ih(h:RS E G s a w){B:Nat}{o:Obj}(o':Obj)(ho:w.heap[B]? =some o)(hk:o.isCells=false)(hm:E.FP B\/E.w.heap.size<=B){bs':List Box}{ds':List Deferred}(hlen:bs'.length=s.bs.length)(hbc:∀b,aa bs' b=aa s.bs b)
  (hsp:Sp E.FP E.w G.M G.σ G.cl bs' ds' E.dd (w.putObj B o')):RS E G ⟨s.env,bs',s.lo⟩ ⟨a.tmps,ds'⟩ (w.putObj B o'):=by
 have hother:∀k,k≠B->(w.putObj B o').heap[k]? =w.heap[k]?:=λk hk=>World.putObj_heap_other hk;have hsize:(w.putObj B o').heap.size=w.heap.size:=World.putObj_size
 have hat:∀p,(⟨s.env,bs',s.lo⟩:St).at p=s.at p:=λp=>by
  cases p with
  |sl t=>rfl
  |bx b j=>simp only[St.at,hbc]
 have hcells:∀B' vs T c,w.heap[B']? =some (.cells vs T c)->B'≠B:=λB' vs T c hc e=>by
  subst e;rw[ho] at hc;cases hc;cases hk
 have hbox:∀b cs,aa s.bs b=some cs->G.σ b≠B:=λb cs hb=>by
  obtain⟨vs,T,h1,_⟩:=h.box b cs hb;exact hcells _ _ _ _ h1
 have hval:∀p x,s.at p=some x->al G.σ ⟨a.tmps,ds'⟩ (w.putObj B o') p=al G.σ a w p:=λp x hp=>by
  cases p with
  |sl t=>rfl
  |bx b j=>
   simp only[St.at] at hp
   cases hb:aa s.bs b with
   |none=>rw[hb] at hp;cases hp
   |some cs=>simp only[al];rw[bK (hother _ (hbox b cs hb))]
 refine⟨⟨h.fr.os,h.fr.tape,h.fr.output,by rw[hsize];exact h.fr.size,h.fr.le,λB' hB' hn=>?_,h.fr.mem⟩,λb i v hv=>?_,h.nt,λp x hp=>?_,λb j x hp=>?_,λb cs hb=>?_,λb cs hb=>?_,λb b' cs cs' hb hb' e=>?_,λp z l hp=>?_,h.clinj,λp B' hB' b cs hb=>?_,λp B' hB'=>by rw[hsize];exact h.cllt p B' hB',h.lo,by simp only[hlen];exact h.len,h.sig,hsp⟩
 .have:B'≠B:=λe=>by
   subst e;rcases hm with h1|h1
   .exact hn h1
   .omega
  rw[hother B' this];exact h.fr.heap B' hB' hn
 .have h1:=h.ok b i v hv
  have:b≠B:=λe=>by
   subst e;have:=Fl ho hk i;simp only[Hp.of] at h1;rw[this] at h1;cases h1
  simp only[Hp.of] at h1|-;rw[bK (hother b this)];exact h1
 .rw [hat] at hp;rw[hval p x hp,hlen];exact h.val p x hp
 .rw [hat] at hp;rw[hval _ x hp];exact h.one b j x hp
 .rw [hbc] at hb;obtain⟨vs,T,h1,h2⟩:=h.box b cs hb;exact⟨vs,T,by rw[hother _ (hbox b cs hb)];exact h1,h2⟩
 .rw [hbc] at hb;exact h.bmem b cs hb
 .rw [hbc] at hb hb';exact h.inj b b' cs cs' hb hb' e
 .rw [hat] at hp;obtain⟨ad,k,h1,h2,h3⟩:=h.own p z l hp;refine⟨ad,k,by rw[hval p _ hp];exact h1,h2,?_⟩
  rcases h3 with h3|⟨B',hB',h4,h5⟩
  .exact .inl h3
  .obtain ⟨vs,T,h6,h7⟩:=h5.cells;exact .inr ⟨B',hB',h4,h5.lt,⟨vs,T,by rw[hother B' (hcells _ _ _ _ h6)];exact h6,h7⟩,h5.free,h5.mine⟩
 .rw [hbc] at hb;exact h.clbox p B' hB' b cs hb
end
theorem bL{bs:List Box}{b:Nat}(c:Nat):aa (bs.set b .dead) c=if c=b then none else aa bs c:=by
 simp only[aa,Zq]
 by_cases e:b=c
 .subst e
  by_cases hb:b<bs.length
  .simp [hb,Box.cs?]
  .simp [hb]
 .rw [if_neg e,if_neg (λk=>e k.symm)]
theorem lZ{bs:List Box}{b c:Nat}{x:LB}(h:ag (bs.set b .dead) c=some x):ag bs c=some x:=by
 by_cases e:b=c
 .subst e
  by_cases hb:b<bs.length
  .simp [ag,hb,Box.lb?] at h
  .simp [ag,hb] at h
 .simp only[ag,Zq,if_neg e] at h;exact h
def rowAt(bs:List Box)(b:Nat):Option (List AV):=match bs[b]? with
 |some (.row cs)=>some cs
 |some (.cells cs)=>some cs
 |_=>none
theorem cr{bs:List Box}{b:Nat}{cs:List AV}(h:rowAt bs b=some cs)(h0:cs≠[]):aa bs b=some cs:=by
 unfold rowAt at h;unfold aa;split at h
 .rename_i ds e;cases h;rw[e];simp[lx,h0]
 .rename_i ds e;cases h;rw[e];rfl
 .cases h
section
variable{E:Entry}{G:Gh}{s:St}{a:Act}{w:World}
theorem RS.reb(h:RS E G s a w){bs':List Box}{σ':Nat->Nat}(f:Nat->Nat)(hlen:s.bs.length<=bs'.length)(hσ:∀b,b<s.bs.length->σ' b=G.σ b)(hl:∀b x,ag bs' b=some x->ag s.bs b=some x)
  (hb:∀b cs',aa bs' b=some cs'->∃cs,aa s.bs (f b)=some cs/\σ' b=G.σ (f b)/\cs'.length<=cs.length/\∀(j:Nat) (x:AV),cs'[j]? =some x->x=.top\/(cs[j]? =some x/\(f b=b\/x.aF=x)))
  (hf:∀b b' cs cs',aa bs' b=some cs->aa bs' b'=some cs'->f b=f b'->b=b'):RS E {G with σ:=σ'} ⟨s.env,bs',s.lo⟩ a w:=by
 have hat:∀b j x,(⟨s.env,bs',s.lo⟩:St).at (.bx b j)=some x->∃y,s.at (.bx (f b) j)=some y/\σ' b=G.σ (f b)/\(x=.top\/(y=x/\(f b=b\/x.aF=x))):=λb j x hx=>by
  simp only[St.at] at hx
  cases hbc:aa bs' b with
  |none=>rw[hbc] at hx;cases hx
  |some cs'=>
   rw[hbc] at hx;simp only[YE] at hx;obtain⟨cs,h1,h2,h3,h4⟩:=hb b cs' hbc;have hj:j<cs.length:=YT (ZB.1 hx).1 h3;refine⟨cs[j],by simp only[St.at,h1,YE];exact ZA hj,h2,?_⟩
   rcases h4 j x hx with e|⟨e,e2⟩
   .exact .inl e
   .refine .inr ⟨?_,e2⟩;rw[ZA hj] at e;exact XV e
 have hva:∀b j,σ' b=G.σ (f b)->al σ' a w (.bx b j)=al G.σ a w (.bx (f b) j):=λb j e=>by simp only[al,e]
 refine⟨h.fr,h.ok,h.nt,λp x hp=>?_,λb j x hp=>?_,λb cs' hc=>?_,λb cs' hc=>?_,λb b' cs cs' hc hc' e=>?_,λp z l hp=>?_,h.clinj,λp B hB b cs' hc=>?_,h.cllt,h.lo,YM h.len hlen,λb hb'=>(hσ b (YT hb' h.len)).trans (h.sig b hb'),h.sp.step (Hp.le_refl _) hσ hl (λ_ _ k _=>k) (λ_ _ _ _ p k=>⟨p,k⟩) (λ_ k=>k)⟩
 .cases p with
  |sl t=>exact(h.val (.sl t) x hp).mono (Hp.le_refl _) hlen hσ
  |bx b j=>
   obtain⟨y,h1,h2,h3⟩:=hat b j x hp;show RV G.M σ' _ _ (al σ' a w (.bx b j));rw[hva b j h2];rcases h3 with rfl|⟨rfl,_⟩
   .exact .flat (.top _)
   .exact (h.val _ _ h1).mono (Hp.le_refl _) hlen hσ
 .obtain ⟨y,h1,h2,_⟩:=hat b j x hp;show (al σ' a w (.bx b j)).oneCell'=true;rw[hva b j h2];exact h.one _ _ _ h1
 .obtain ⟨cs,h1,h2,h3,_⟩:=hb b cs' hc;obtain⟨vs,T,h4,h5⟩:=h.box _ cs h1;exact⟨vs,T,by show w.heap[σ' b]? =_;rw[h2];exact h4,by omega⟩
 .obtain ⟨cs,h1,h2,h3,_⟩:=hb b cs' hc;show (∀o,G.M (σ' b) o=none)/\(E.FP (σ' b)\/E.w.heap.size<=σ' b);rw[h2];exact h.bmem _ cs h1
 .obtain ⟨ds,h1,h2,_⟩:=hb b cs hc;obtain⟨ds',h1',h2',_⟩:=hb b' cs' hc';have e:σ' b=σ' b':=e;rw[h2,h2'] at e;exact hf b b' cs cs' hc hc' (h.inj _ _ ds ds' h1 h1' e)
 .cases p with
  |sl t=>exact h.own (.sl t) z l hp
  |bx b j=>
   obtain⟨y,h1,h2,h3⟩:=hat b j _ hp;rcases h3 with e|⟨rfl,e|e⟩
   .cases e
   .show∃ad k,al σ' a w (.bx b j)=_/\_;rw[hva b j h2,e];rw[e] at h1;exact h.own _ z l h1
   .simp [AV.aF] at e
 .obtain ⟨cs,h1,h2,_⟩:=hb b cs' hc;show σ' b≠B;rw[h2];exact h.clbox p B hB _ cs h1
end
def wD(z:Nat)(bs:List Box)(y:AV)(K:Nat->List AV->Prop):Prop:=
 match y with
 |.sl _ xs=>(∀y∈xs,y.cells.length=z)/\K xs.length (cellsOf xs)
 |.bsl b m _=>match rowAt bs b with
  |some cs=>(m*z<=cs.length/\∀x∈cs.take (m*z),x.aF=x)/\K m (cs.take (m*z))
  |none=>False
 |_=>False
def qx(bs:List Box)(x:AV)(K:Nat->Nat->List AV->Option Nat->Prop):Prop:=
 match x with
 |.sl .full []=>K 0 0 [] none
 |.bsl b m k=>match rowAt bs b with
  |some cs=>K m k cs (some b)
  |none=>False
 |_=>False
def iv(bs:List Box):Option Nat->List Box
 |none=>bs
 |some b=>bs.set b .dead
def mG(z:Nat)(s:St)(x y:AV)(K:AV->St->Prop):Prop:=
 qx s.bs x λm k cs ob=>wD z s.bs y λn ys=>(0<z/\k*z<=cs.length/\m+n<=4294967296/\∀x∈cs.take (m*z),x.aF=x)/\
  ∀k',m+n<=k'->K (.bsl s.bs.length (m+n) k') ⟨s.env,iv s.bs ob++[.row (cs.take (m*z)++(ys++List.replicate ((k'-(m+n))*z) .top))],s.lo⟩
theorem DZ{z:Nat}{bs:List Box}{y:AV}{K:Nat->List AV->Prop}(h:wD z bs y K):∃n ys,wD z bs y (λn' ys'=>n'=n/\ys'=ys)/\K n ys:=by
 unfold wD at h|-;split at h
 .exact ⟨_,_,⟨h.1,rfl,rfl⟩,h.2⟩
 .rename_i b m k;split at h
  .rename_i cs e;exact⟨m,cs.take (m*z),⟨h.1,rfl,rfl⟩,h.2⟩
  .exact h.elim
 .exact h.elim
theorem Dm{bs:List Box}{x:AV}{K:Nat->Nat->List AV->Option Nat->Prop}(h:qx bs x K):∃m k cs ob,qx bs x (λm' k' cs' ob'=>m'=m/\k'=k/\cs'=cs/\ob'=ob)/\K m k cs ob:=by
 unfold qx at h|-;split at h
 .exact ⟨_,_,_,_,⟨rfl,rfl,rfl,rfl⟩,h⟩
 .rename_i b m k;split at h
  .rename_i cs e;exact⟨m,k,cs,some b,⟨rfl,rfl,rfl,rfl⟩,h⟩
  .exact h.elim
 .exact h.elim
section
variable{E:Entry}{G:Gh}{s:St}{a:Act}{w:World}{P:Program}
theorem RS.els(hs:RS E G s a w){y:AV}{v:Value}(hv:RV G.M G.σ s.bs.length y v){z n:Nat}{ys:List AV}(h:wD z s.bs y (λn' ys'=>n'=n/\ys'=ys)):
  ys.length=n*z/\∃(xa:Option Addr) (c B off:Nat) (us:List Value),v=.slice xa n c/\us.length=n*z/\(∀u∈us,u.oneCell'=true)/\(∀j (hj:j<ys.length) u,us[j]? =some u->RV G.M G.σ s.bs.length ys[j] u)/\(n≠0->xa=some ⟨B,off,none⟩)/\∀j u,us[j]? =some u->w.cell? ⟨B,off+j,none⟩=some u:=by
 unfold wD at h;split at h
 .rename_i oc xs;obtain⟨hz,rfl,rfl⟩:=h;obtain⟨ad,k,B,off,hsv⟩:=hv.sv hz;obtain⟨us,u1,u2,u3⟩:=hsv.row hs.ok;exact⟨bA hz,ad,k,B,off,us,hsv.eq,u1.1,u2,λj hj u hu=>.flat (u1.at_ j hj u hu),λh0=>hsv.at_ (λe=>h0 (by simp[e])),u3⟩
 .rename_i b m k;split at h
  .rename_i cs e;obtain⟨⟨h1,h2⟩,rfl,rfl⟩:=h;obtain⟨ad,hv1,hb,hmk,hml,had⟩:=hv.dH;have hlen:(cs.take (m*z)).length=m*z:=by simp[h1]
   by_cases h0:cs=[]
   .subst h0;simp only[YO,Nat.le_zero] at h1;exact⟨by simp[h1],ad,k,G.σ b,0,[],hv1,by simp[h1],by simp,λj hj=>by simp at hj,λhn=>had (by omega),by simp⟩
   .have hbc:=cr e h0;obtain⟨vs,T,c1,c2⟩:=hs.box b cs hbc
    have hget:∀j u,((vs.toList.take (m*z))[j]? =some u)->j<m*z/\w.cell? ⟨G.σ b,j,none⟩=some u:=λj u hu=>by
     have hj:j<m*z:=by
      rcases Zs j (m*z) with h3|h3
      .exact h3
      .rw [Yc,if_neg (by omega)] at hu;cases hu
     rw[Yc,if_pos hj] at hu;refine⟨hj,?_⟩;simp only[World.cell?,c1];simpa using hu
    refine⟨hlen,ad,k,G.σ b,0,vs.toList.take (m*z),hv1,by simp;omega,λu hu=>?_,λj hj u hu=>?_,λhn=>had (by omega),λj u hu=>by rw[YG];exact(hget j u hu).2⟩
    .obtain ⟨j,hj,rfl⟩:=Yb.1 hu;obtain⟨h3,h4⟩:=hget j _ (ZA hj);obtain⟨u',h5,h6,_⟩:=hs.ze hbc j (by omega)
     rw[h4] at h5;cases h5;exact h6
    .obtain ⟨h3,h4⟩:=hget j _ hu;obtain⟨u',h5,_,h6⟩:=hs.ze hbc j (by omega)
     rw[h4] at h5;cases h5;rw[Yv]
     have:=h2 cs[j] (by
      rw[Yb];exact⟨j,by rw[hlen];exact h3,by rw[Yv]⟩)
     rw[<-this];exact h6
  .exact h.elim
 .exact h.elim
theorem wF{bs:List Box}(ob:Option Nat)(c:Nat):aa (iv bs ob) c=if ob=some c then none else aa bs c:=by
 cases ob with
 |none=>simp[iv]
 |some b=>
  simp only[iv,bL,ZN]
  by_cases e:c=b
  .rw [if_pos e,if_pos e.symm]
  .rw [if_neg e,if_neg (λx=>e x.symm)]
theorem gJ(bs:List Box)(ob:Option Nat):(iv bs ob).length=bs.length:=by cases ob<;>simp[iv]
theorem wE{bs:List Box}{ob:Option Nat}{c:Nat}{x:LB}(h:ag (iv bs ob) c=some x):ag bs c=some x:=by
 cases ob with
 |none=>exact h
 |some b=>exact lZ h
theorem x8(hs:RS E G s a w){e z:Nat}{zv:Value}{zx:AV}(hzs:zv.cells.size=z)(hzx:dF zv=some zx)(hok:aV zx=true){x:AV}{v:Value}(hv:RV G.M G.σ s.bs.length x v)
  {m k n:Nat} {cs ys:List AV} {ob:Option Nat} (hx:qx s.bs x (λm' k' cs' ob'=>m'=m/\k'=k/\cs'=cs/\ob'=ob)) (hz:0<z) (hkz:k*z<=cs.length) (hlim:m+n<=glim) (hde:∀x∈cs.take (m*z),x.aF=x)
  {us:List Value} (hyl:ys.length=n*z) (u1:us.length=n*z) (u2:∀u∈us,u.oneCell'=true) (u3:∀j (hj:j<ys.length) u,us[j]? =some u->RV G.M G.σ s.bs.length ys[j] u) {X:Sem (Array Value)} (hX:X.run P w=.ok us.toArray w) (hX':X.run P w.drew=.ok us.toArray w.drew) {run:Result Value}
  (hun:∀ad,v=.slice ad m k->run=if m+n<=k then (X.run P w).andThen λnew w1=>
     ((match ad with|some a=>storeCells (a.add (m*z)) new.toList|none=>Pure.pure ():Sem Unit).run P w1).andThen λ_ w2=>.ok (.slice ad (m+n) k) w2
   else ((Builtin.firstCells z m (.slice ad m k)).run P w.drew).andThen λold w1=>(X.run P w1).andThen λnew w2=>
    .ok (.slice (some ⟨w2.heap.size,0,none⟩) (m+n) (grownCap w (m+n) k e)) (w2.alloc (.cells (old++new++Builtin.zeroCells zv.cells (grownCap w (m+n) k e-(m+n))) e))):
  ∃k' v' G' w',m+n<=k'/\run=.ok v' w'/\RS E G' ⟨s.env,iv s.bs ob++[.row (cs.take (m*z)++(ys++List.replicate ((k'-(m+n))*z) .top))],s.lo⟩ a w'/\RV G'.M G'.σ (s.bs.length+1) (.bsl s.bs.length (m+n) k') v':=by
 have hsrc:∃ad,v=.slice ad m k/\m<=k/\(k≠0->∃b,ob=some b/\ad=some ⟨G.σ b,0,none⟩/\aa s.bs b=some cs):=by
  unfold qx at hx;split at hx
  .obtain ⟨rfl,rfl,rfl,rfl⟩:=hx;obtain⟨ad,kk,B,off,sz,h1,_,_,_,h2,_⟩:=hv.ez;have:=h2 rfl;subst this;exact⟨ad,h1,ZG _,λh=>absurd rfl h⟩
  .split at hx
   .rename_i b m' k' _ cs' hr;obtain⟨rfl,rfl,rfl,rfl⟩:=hx;obtain⟨ad,h1,h2,h3,h4,h5⟩:=hv.dH;refine⟨ad,h1,h3,λh0=>⟨b,rfl,h5 h0,cr hr (λe=>?_)⟩⟩;subst e;have:0<k'*z:=Nat.mul_pos (by omega) hz
    simp only[YO] at hkz;omega
   .exact hx.elim
  .exact hx.elim
 obtain⟨ad,rfl,hmk,hsrc⟩:=hsrc;have hmz:m*z<=cs.length:=YM (YB _ hmk) hkz;rw[hun ad rfl];have hblt:∀b cs,aa s.bs b=some cs->b<s.bs.length:=λb cs h=>aA h
 have hnew:∀c ds cs2,aa (iv s.bs ob++[.row cs2]) c=some ds->(c=s.bs.length/\ds=cs2/\cs2≠[])\/(c<s.bs.length/\ob≠some c/\aa s.bs c=some ds):=λc ds cs2 h=>by
  rw[aS,gJ] at h
  by_cases ec:c=s.bs.length
  .rw [if_pos ec,lx] at h;split at h
   .cases h
   .rename_i h0;cases h;exact .inl ⟨ec,rfl,h0⟩
  .rw [if_neg ec,wF] at h;split at h
   .cases h
   .rename_i h0;exact .inr ⟨hblt _ _ h,h0,h⟩
 have hloop:∀(cs2:List AV) b x,ag (iv s.bs ob++[.row cs2]) b=some x->ag s.bs b=some x:=λcs2 b x h=>wE (iz rfl h)
 by_cases hfit:m+n<=k
 .rw [if_pos hfit,hX];simp only[Xh]
  by_cases hk0:k=0
  .subst hk0;obtain rfl:m=0:=by omega
   obtain rfl:n=0:=by omega
   have hus:us=[]:=ZL (by simpa using u1)
   have hysn:ys=[]:=ZL (by simpa using hyl)
   subst hus hysn;refine⟨0,.slice ad 0 0,{G with σ:=G.σ},w,ZG _,?_,?_,?_⟩
   .cases ad<;>simp[storeCells]
   .refine hs.reb id (by simp[gJ]) (λ_ _=>rfl) (hloop _) (λb cs' hc=>?_) (λb b' _ _ _ _ e=>e)
    rcases hnew b cs' _ hc with ⟨_,_,h0⟩|⟨h1,_,h3⟩
    .simp at h0
    .exact ⟨cs',h3,rfl,ZG _,λj x hx=>.inr ⟨hx,.inl rfl⟩⟩
   .exact .bsl _ _ _ _ (by omega) (ZG _) (by first|(unfold glim;omega)|(unfold lim;omega)) (λh=>absurd rfl h)
  .obtain ⟨b,hob,had,hbc⟩:=hsrc hk0;subst had;have hmn:m*z+n*z<=k*z:=by rw[<-YK];exact YB _ hfit
   obtain⟨w',h5,h6⟩:=dW (P:=P) us ys s w b (m*z) 0 cs hs hbc (by rw[hyl];omega) (by rw[u1,hyl]) u2 u3
   have hlen1:(setAt cs (m*z+0) ys).length=cs.length:=fS _ _ _;refine⟨k,.slice (some ⟨G.σ b,0,none⟩) (m+n) k,{G with σ:=λc=>if c=s.bs.length then G.σ b else G.σ c},w',hfit,?_,?_,?_⟩
   .simp only;rw[bQ,YG,h5];rfl
   .refine h6.reb (λc=>if c=s.bs.length then b else c) (by simp[St.bh,gJ]) (λc hc=>?_) (λc x hc=>?_) (λc cs' hc=>?_) (λc c' ds ds' hc hc' e=>?_)
    .simp only[St.bh,Zm] at hc;rw[if_neg (by omega)]
    .have:=hloop _ c x hc;simp only[St.bh];simp only[ag,Zq]
     by_cases eb:b=c
     .subst eb;simp only[ag] at this;simp only[aa] at hbc
      cases hq:s.bs[b]? with
      |none=>rw[hq] at hbc;cases hbc
      |some q=>
       rw[hq] at this hbc;cases q<;>first|(cases hbc;done)|(cases this;done)
     .rw [if_neg eb];exact this
    .rcases hnew c cs' _ hc with ⟨rfl,rfl,h0⟩|⟨h1,h2,h3⟩
     .simp only[if_true];refine⟨setAt cs (m*z+0) ys,by simp only[St.bh];rw[dj hbc,if_pos rfl],trivial,?_,λj x hx=>?_⟩
      .rw [hlen1];simp only[ZC,Zn,Zf,hyl,Nat.sub_mul,YK];omega
      .have hjlt:j<cs.length:=by
        have:=(ZB.1 hx).1;simp only[ZC,Zn,Zf,hyl,Nat.sub_mul,YK] at this;omega
       rw[nV];simp only[Yi]
       by_cases hj1:j<m*z
       .rw [if_neg (by omega)]
        rw[ZK (by simp;omega)] at hx
        refine .inr ⟨?_,.inr (hde x (ZE hx))⟩;rw[Yc,if_pos hj1] at hx;exact hx
       .rw [ZZ (by simp;omega)] at hx
        simp only[Zn,XS hmz] at hx
        by_cases hj2:j-m*z<ys.length
        .rw [ZK hj2] at hx;rw[if_pos (by omega)]
         have hx2:ys[j-m*z]'hj2=x:=by
          rw[ZA hj2] at hx;exact XV hx
         refine .inr ⟨hx,.inr ?_⟩;have:=(u3 (j-m*z) hj2 _ (ZA (by rw[u1,<-hyl];exact hj2))).bP
         rw[hx2] at this;exact this
        .rw [ZZ (by omega)] at hx
         refine .inl ?_;exact(Ya.1 (ZE hx)).2
     .have hcb:c≠b:=λe=>h2 (by rw[hob,e])
      simp only[show c≠s.bs.length by omega,if_false]
      refine⟨cs',by simp only[St.bh];rw[dj hbc,if_neg hcb];exact h3,trivial,ZG _,λj x hx=>.inr ⟨hx,.inl trivial⟩⟩
    .rcases hnew c ds _ hc with ⟨rfl,_,_⟩|⟨h1,h2,h3⟩<;>rcases hnew c' ds' _ hc' with ⟨rfl,_,_⟩|⟨h1',h2',h3'⟩
     .rfl
     .rw [if_pos rfl,if_neg (by omega)] at e
      exact absurd (by rw[hob,e]) h2'
     .rw [if_pos rfl,if_neg (by omega)] at e
      exact absurd (by rw[hob,e]) h2
     .rw [if_neg (by omega),if_neg (by omega)] at e
      exact e
   .have:=RV.bsl (M:=G.M) (σ:=λc=>if c=s.bs.length then G.σ b else G.σ c) (n:=s.bs.length+1) s.bs.length (m+n) k (some ⟨G.σ b,0,none⟩) (by omega) hfit (by first|exact hlim|(unfold glim at hlim;first|(unfold glim;omega)|(unfold lim;omega))) (λ_=>by simp)
    exact this
 .rw [if_neg hfit];have hg:=grownCap_ge w (m+n) k e
  generalize hgc:grownCap w (m+n) k e=k' at*
  --the old cells
  have hold:∃os:List Value,os.length=m*z/\(∀u∈os,u.oneCell'=true)/\(∀(j:Nat) (hj:j<(cs.take (m*z)).length) u,os[j]? =some u->RV G.M G.σ s.bs.length (cs.take (m*z))[j] u)/\(Builtin.firstCells z m (.slice ad m k)).run P w.drew=.ok os.toArray w.drew:=by
   by_cases hm0:m=0
   .subst hm0;refine⟨[],by simp,by simp,λj hj=>by simp at hj,?_⟩
    exact bO (P:=P) (B:=0) (off:=0) w.drew (by simp) (λh=>absurd rfl h) (by simp)
   .obtain ⟨b,hob,had,hbc⟩:=hsrc (by omega)
    obtain⟨vs,T,c1,c2⟩:=hs.box b cs hbc
    have hget:∀(j:Nat) u,((vs.toList.take (m*z))[j]? =some u)->j<m*z/\w.cell? ⟨G.σ b,j,none⟩=some u:=λj u hu=>by
     have hj:j<m*z:=by
      rcases Zs j (m*z) with h3|h3
      .exact h3
      .rw [Yc,if_neg (by omega)] at hu;cases hu
     rw[Yc,if_pos hj] at hu;refine⟨hj,?_⟩;simp only[World.cell?,c1];simpa using hu
    refine⟨vs.toList.take (m*z),by simp;omega,λu hu=>?_,λj hj u hu=>?_,?_⟩
    .obtain ⟨j,hj,rfl⟩:=Yb.1 hu;obtain⟨h3,h4⟩:=hget j _ (ZA hj);obtain⟨u',h5,h6,_⟩:=hs.ze hbc j (by omega)
     rw[h4] at h5;cases h5;exact h6
    .obtain ⟨h3,h4⟩:=hget j _ hu;obtain⟨u',h5,_,h6⟩:=hs.ze hbc j (by omega)
     rw[h4] at h5;cases h5;have:=hde _ (Zc hj);rw[Yv] at this|-;rw[<-this];exact h6
    .refine bO (P:=P) (B:=G.σ b) (off:=0) w.drew (by simp;omega) (λ_=>had) λj u hu=>?_
     rw[YG];exact(hget j u hu).2
  obtain⟨os,o1,o2,o3,o4⟩:=hold;rw[o4];simp only[Xh];rw[hX'];simp only[Xh];have hd:RS E G s a w.drew:=hs.drew;obtain⟨z1,z2,_⟩:=(RV.flat (σ:=λ_=>0) (n:=0) (gq (M:=G.M) hzx)).cells hok;have hzl:(Builtin.zeroCells zv.cells (k'-(m+n))).toList.length=(k'-(m+n))*z:=by rw[YH,size_zeroCells,hzs]
  have h7:=hd.s6 (.row (cs.take (m*z)++(ys++List.replicate ((k'-(m+n))*z) .top))) (cs.take (m*z)++(ys++List.replicate ((k'-(m+n))*z) .top)) rfl (λds e=>by
   rw[lx] at e;split at e
   .cases e
   .cases e;rfl) (os++(us++(Builtin.zeroCells zv.cells (k'-(m+n))).toList)) e (by
    simp only[ZC,Zn,Zf,o1,u1,hyl,hzl];omega) (λu hu=>by
    rcases ZY.1 hu with h1|h1
    .exact o2 u h1
    .rcases ZY.1 h1 with h1|h1
     .exact u2 u h1
     .simp only[Builtin.zeroCells,Array.toList_map,Zk] at h1;obtain⟨j,hj,rfl⟩:=h1;have hp:0<zv.cells.size:=by omega
      have hlt:j %zv.cells.size<zv.cells.size:=Xf _ hp;have hm:=z2 (zv.cells[j %zv.cells.size]'hlt) (by simp)
      rw[getElem!_pos zv.cells _ hlt];exact hm) (λj hj u hu=>by
    by_cases hj1:j<(cs.take (m*z)).length
    .rw [ZK (by rw[o1];simp at hj1;omega)] at hu
     rw[YF hj1];exact o3 j hj1 u hu
    .have hlo:os.length=(cs.take (m*z)).length:=by rw[o1];simp[hmz]
     rw[ZZ (by omega)] at hu
     rw[YX (by omega)]
     by_cases hj2:j-(cs.take (m*z)).length<ys.length
     .rw [YF hj2];rw[ZK (by rw[u1,<-hyl];omega)] at hu
      exact u3 _ hj2 u (by rw[<-hlo];exact hu)
     .rw [YX (by omega),XC]
      exact .flat (.top _))
  refine⟨k',_,_,_,hg,rfl,(?_:RS E {G with σ:=λb=>if b=s.bs.length then w.drew.heap.size else G.σ b} _ a _),?_⟩
  .have h8:=h7.reb (bs':=iv s.bs ob++[.row (cs.take (m*z)++(ys++List.replicate ((k'-(m+n))*z) .top))]) (σ':=λb=>if b=s.bs.length then w.drew.heap.size else G.σ b) id (by simp[gJ]) (λ_ _=>rfl) (λb x hb=>by
    have:=hloop _ b x hb;simp only[ag];rw[ZK (aO this)]
    exact this) (λb cs' hc=>⟨cs',by
     rcases hnew b cs' _ hc with ⟨rfl,rfl,h0⟩|⟨h1,_,h3⟩
     .simp only[id];rw[aS,if_pos rfl,lx,if_neg h0]
     .simp only[id];rw[aS,if_neg (by omega)];exact h3,rfl,ZG _,λj x hx=>.inr ⟨hx,.inl rfl⟩⟩) (λb b' _ _ _ _ e=>e)
   have hcells:(os.toArray++us.toArray++Builtin.zeroCells zv.cells (k'-(m+n)))=(os++(us++(Builtin.zeroCells zv.cells (k'-(m+n))).toList)).toArray:=by
    apply Array.ext';simp
   rw[hcells];exact h8
  .have:=RV.bsl (M:=G.M) (σ:=λb=>if b=s.bs.length then w.drew.heap.size else G.σ b) (n:=s.bs.length+1) s.bs.length (m+n) k' (some ⟨w.drew.heap.size,0,none⟩) (by omega) hg (by first|exact hlim|(unfold glim at hlim;first|(unfold glim;omega)|(unfold lim;omega))) (λ_=>by simp)
   exact this
theorem C9{s:St}{o:Oper}{x y:Operand}{t e z:Nat}(ho:o.op=.call {callee:=.builtin .append,args:=#[x,y],argTypes:=#[t,t]})(ht:P.underlying t=some (.slice e)){i:TypeInfo}{zv:Value}(hi:P.info? e=some i)(hzv:i.zero=some zv)(hsz:i.size=z)(hzs:zv.cells.size=z)(hb:i.bytes<=4096){zx:AV}(hzx:dF zv=some zx)(hok:aV zx=true)
  {rx ry:Opd} (hx:opd x=some rx) (hy:opd y=some ry) {K:St->Prop} (h:mG z s (s.ev rx) (s.ev ry) λr s'=>K (s'.put o.dst r)):OpS P o s K:=by
 have hd:∀c,o.op≠.defer c:=λc e=>by rw[ho] at e;cases e
 obtain⟨m,k,cs,ob,h1,h⟩:=Dm h;obtain⟨n,ys,h2,⟨hz,hkz,hlim,hde⟩,hK⟩:=DZ h;refine OpS.ex (ι:=Nat) (λk'=>m+n<=k') (λk'=>.bsl s.bs.length (m+n) k') (λk'=>⟨s.env,iv s.bs ob++[.row (cs.take (m*z)++(ys++List.replicate ((k'-(m+n))*z) .top))],s.lo⟩) hd hK λE G a w hs=>?_;obtain⟨hyl,xa,c,Bx,offx,us,hvy,u1,u2,u3,u4,u5⟩:=hs.els (hs.ev hy) h2
 obtain⟨k',v',G',w',q1,q2,q3,q4⟩:=x8 (P:=P) (e:=e) (X:=Builtin.firstCells z n (.slice xa n c)) (run:=(Builtin.append_ #[t,t] o.type #[a.eval x,a.eval y]).run P w) hs hzs hzx hok (hs.ev hx) h1 hz hkz (by first|(unfold glim;omega)|(unfold lim;omega)) hde hyl u1 u2 u3 (bO w u1 u4 u5) (bO w.drew u1 u4 (by simpa using u5))
  (λad hv=>by rw[hv,hvy,oI (P:=P) ht hi hzv hsz rfl o.type ad m k xa n c w (by first|(unfold glim;omega)|(unfold lim;omega)) hb];cases ad<;>rfl)
 refine⟨k',v',G',w',q1,?_,q3,by simpa[gJ] using q4⟩
 rw[jV P _ o ho (.inl rfl)];simp only[q2,Xh]
theorem BG{t u e sz bytes:Nat}{iu:IntKind}{i:TypeInfo}{z:Value}(ht:P.underlying t=some (.slice e))(hu:P.underlying u=some (.int iu))(hi:P.info? e=some i)(hz:i.zero=some z)(hsz:i.size=sz)(hzs:z.cells.size=sz)(hby:i.bytes=bytes)
  (ty:TypeId) (ad:Option Addr) (n k m:Nat) (ki:IntKind) (w:World) (hle:n+m<=glim) (hb:bytes<=4096):
  (Builtin.append_ #[t,u] ty #[.slice ad n k,.int ki m]).run P w=
   if n+m<=k then ((Pure.pure (Builtin.zeroCells z.cells m):Sem (Array Value)).run P w).andThen λnew w1=>
     ((match ad with|some a=>storeCells (a.add (n*sz)) new.toList|none=>Pure.pure ():Sem Unit).run P w1).andThen λ_ w2=>.ok (.slice ad (n+m) k) w2
   else ((Builtin.firstCells sz n (.slice ad n k)).run P w.drew).andThen λold w1=>((Pure.pure (Builtin.zeroCells z.cells m):Sem (Array Value)).run P w1).andThen λnew w2=>
    .ok (.slice (some ⟨w2.heap.size,0,none⟩) (n+m) (grownCap w (n+m) k e)) (w2.alloc (.cells (old++new++Builtin.zeroCells z.cells (grownCap w (n+m) k e-(n+m))) e)):=by
 subst hsz hby;have hwr:IntKind.i64.wrap (m:Int)=m:=wrap_i64 (by omega) (by ((try unfold glim at hle);(try unfold lim at hle));omega)
 have hbm:¬(281474976710656<(m:Int)*(i.bytes:Int)):=by
  have h4:(i.bytes:Int)<=4096:=by omega
  have h5:(m:Int)<=4294967296:=by ((try unfold glim at hle);(try unfold lim at hle));omega
  have:(m:Int)*(i.bytes:Int)<=4294967296*4096:=Int.mul_le_mul h5 h4 (by omega) (by omega)
  omega
 have hzc:m*i.size=0->Builtin.zeroCells z.cells m=#[]:=λh0=>by
  apply Array.eq_empty_of_size_eq_zero;rw[size_zeroCells,hzs,h0]
 have hneg:¬(m:Int)<0:=by omega
 by_cases h:n+m<=k
 .rw [if_pos h]
  by_cases h0:m*i.size=0
  .cases ad<;>simp[Builtin.append_,run_underlying ht,run_underlying hu,sizeOf,typeInfo,hi,asInt,asIntOf,hwr,hbm,hneg,h,h0,hzc h0]
  .cases ad<;>simp[Builtin.append_,run_underlying ht,run_underlying hu,sizeOf,typeInfo,hi,asInt,asIntOf,hwr,hbm,hneg,h,h0,zeroValue,hz]
 .rw [if_neg h];have h63':¬(9223372036854775807<((n:Int)+(m:Int))):=by ((try unfold glim at hle);(try unfold lim at hle));omega
  have h48':¬(281474976710656<Builtin.nextslicecap (n+m) k*i.bytes):=by
   have h1:=Nat.mul_le_mul hle hb;have:=growslice_fits (need:=n+m) (old:=k) (bytes:=i.bytes) (by omega) (by ((try unfold glim at h1);(try unfold lim at h1));omega)
   omega
  by_cases h0:m*i.size=0
  .simp [Builtin.append_,run_underlying ht,run_underlying hu,sizeOf,typeInfo,hi,asInt,asIntOf,hwr,hbm,hneg,zeroValue,hz,h,h63',h48',Question.forced,newRow,grownCap,hzc h0]
  .simp [Builtin.append_,run_underlying ht,run_underlying hu,sizeOf,typeInfo,hi,asInt,asIntOf,hwr,hbm,hneg,zeroValue,hz,h,h63',h48',Question.forced,newRow,grownCap,h0]
theorem ye{M:Hp}{σ:Nat->Nat}{nb:Nat}{x:AV}{v:Value}(hx:dF v=some x)(hok:aV x=true)(hflat:x.flat=true){z:Nat}(hz:v.cells.size=z)(n:Nat):
  (cellsOf (List.replicate n x)).length=n*z/\(Builtin.zeroCells v.cells n).toList.length=n*z/\(∀u∈(Builtin.zeroCells v.cells n).toList,u.oneCell'=true)/\
   ∀j (hj:j<(cellsOf (List.replicate n x)).length) u,(Builtin.zeroCells v.cells n).toList[j]? =some u->RV M σ nb (cellsOf (List.replicate n x))[j] u:=by
 obtain⟨us,h1,h2⟩:=fG (M:=M) hx hok hflat hz n n (ZG _);have hl:(Builtin.zeroCells v.cells n).toList.length=n*z:=by rw[YH,size_zeroCells,hz]
 have hul:us.length=n*z:=by rw[h1.1];simp
 have he:us=(Builtin.zeroCells v.cells n).toList:=by
  apply List.ext_getElem (by rw[hul,hl])
  intro j hj hj';have:=h2 j us[j] (ZA hj);rw[<-hz] at this;have h3:(Builtin.zeroCells v.cells n)[j]? =some us[j]:=this;rw[Zi (by rwa [YH] at hj')] at h3
  simpa using(XV h3).symm
 obtain⟨c1,_,_⟩:=(RV.flat (σ:=σ) (n:=nb) (gq (M:=M) hx)).cells hok
 have hzs:∀y∈List.replicate n x,y.cells.length=z:=λy hy=>by
  rw[(Ya.1 hy).2,<-c1,YH,hz]
 refine⟨by rw[bA hzs];simp,hl,λu hu=>?_,λj hj u hu=>.flat (h1.at_ j hj u (by rw[he];exact hu))⟩
 rw[<-he] at hu;obtain⟨j,hj,rfl⟩:=Yb.1 hu
 have hz0:0<z:=by
  rcases Nat.eq_zero_or_pos z with h0|h0
  .subst h0;omega
  .exact h0
 have hi:j/z<(List.replicate n x).length:=by simp;exact(Yy hz0).2 (by omega)
 obtain⟨a1,a2⟩:=h1.2 _ hi;obtain⟨u',b1,b2,_⟩:=a2 (j %z) (by rw[a1];exact Xf _ hz0)
 have hjj:j/z*z+j %z=j:=by have:=XR j z;rw[Xa] at this;exact this
 rw[hjj,ZA hj] at b1;cases b1;exact b2
def vv(z:Nat)(s:St)(x y:AV)(K:AV->St->Prop):Prop:=
 match y with
 |.int _ q=>qx s.bs x λm k cs ob=>(0<z/\k*z<=cs.length/\(0<=q/\m+q.toNat<=4294967296)/\∀x∈cs.take (m*z),x.aF=x)/\
  ∀k',m+q.toNat<=k'->K (.bsl s.bs.length (m+q.toNat) k') ⟨s.env,iv s.bs ob++[.row (cs.take (m*z)++List.replicate ((k'-m)*z) .top)],s.lo⟩
 |_=>False
theorem C8{s:St}{o:Oper}{x y:Operand}{t u e z:Nat}{iu:IntKind}(ho:o.op=.call {callee:=.builtin .append,args:=#[x,y],argTypes:=#[t,u]})(ht:P.underlying t=some (.slice e))(hu:P.underlying u=some (.int iu)){i:TypeInfo}{zv:Value}(hi:P.info? e=some i)(hzv:i.zero=some zv)(hsz:i.size=z)(hzs:zv.cells.size=z)(hb:i.bytes<=4096){zx:AV}(hzx:dF zv=some zx)(hok:aV zx=true)(hflat:zx.flat=true)
  {rx ry:Opd} (hx:opd x=some rx) (hy:opd y=some ry) {K:St->Prop} (h:vv z s (s.ev rx) (s.ev ry) λr s'=>K (s'.put o.dst r)):OpS P o s K:=by
 have hd:∀c,o.op≠.defer c:=λc e=>by rw[ho] at e;cases e
 unfold vv at h;split at h
 .rename_i ki q hye;obtain⟨m,k,cs,ob,h1,⟨hz,hkz,⟨hq,hlim⟩,hde⟩,hK⟩:=Dm h;obtain⟨n,rfl⟩:∃n:Nat,q=n:=⟨q.toNat,by omega⟩
  simp only[Ys] at hlim hK;refine OpS.ex (ι:=Nat) (λk'=>m+n<=k') (λk'=>.bsl s.bs.length (m+n) k') (λk'=>⟨s.env,iv s.bs ob++[.row (cs.take (m*z)++List.replicate ((k'-m)*z) .top)],s.lo⟩) hd hK λE G a w hs=>?_;have hyv:=hs.ev hy;rw[hye] at hyv;have hyv:=hyv.aC;obtain⟨_,u1,u2,_⟩:=ye (M:=G.M) (σ:=G.σ) (nb:=s.bs.length) hzx hok hflat hzs n
  obtain⟨k',v',G',w',q1,q2,q3,q4⟩:=x8 (P:=P) (e:=e) (X:=Pure.pure (Builtin.zeroCells zv.cells n)) (run:=(Builtin.append_ #[t,u] o.type #[a.eval x,a.eval y]).run P w) hs hzs hzx hok (hs.ev hx) (ys:=List.replicate (n*z) .top) h1 hz hkz (by first|(unfold glim;omega)|(unfold lim;omega)) hde (by simp) u1 u2 (λj hj u _=>by rw[XC];exact .flat (.top _)) rfl rfl
   (λad hv=>by rw[hv,hyv,BG (P:=P) ht hu hi hzv hsz hzs rfl o.type ad m k n ki w (by first|(unfold glim;omega)|(unfold lim;omega)) hb])
  rw[List.replicate_append_replicate,<-YK,show n+(k'-(m+n))=k'-m by omega] at q3
  refine⟨k',v',G',w',q1,?_,q3,by simpa[gJ] using q4⟩
  rw[jV P _ o ho (.inl rfl)];simp only[q2,Xh]
 .exact h.elim
def mkB(z:Nat)(zx:AV)(s:St)(l c:AV)(K:AV->St->Prop):Prop:=
 match l,c with
 |.int _ n,.int _ m=>(0<z/\0<=n/\n<=m/\m<=4294967296)/\K (.bsl s.bs.length n.toNat m.toNat) ⟨s.env,s.bs++[.row (cellsOf (List.replicate n.toNat zx)++List.replicate ((m.toNat-n.toNat)*z) .top)],s.lo⟩
 |_,_=>False
theorem EM{s:St}{o:Oper}{t e:Nat}{lo co:Operand}(ho:o.op=.makeSlice t lo co){i:TypeInfo}{z:Value}{x:AV}{sz:Nat}(ht:P.underlying t=some (.slice e))(hi:P.info? e=some i)(hz:i.zero=some z)(hsz:i.size=sz)(hzs:z.cells.size=sz)(hb:i.bytes<=4096)
  (hx:dF z=some x) (hok:aV x=true) (hflat:x.flat=true) {rl rc:Opd} (hl:opd lo=some rl) (hc:opd co=some rc) {K:St->Prop} (h:mkB sz x s (s.ev rl) (s.ev rc) λr s'=>K (s'.put o.dst r)):OpS P o s K:=by
 have hd:∀c,o.op≠.defer c:=λc e=>by rw[ho] at e;cases e
 unfold mkB at h;split at h
 .rename_i kl n kc m hle hce;obtain⟨⟨hz0,h0,h1,h2⟩,hK⟩:=h;refine OpS.ex (ι:=Unit) (λ_=>True) (λ_=>.bsl s.bs.length n.toNat m.toNat) (λ_=>⟨s.env,s.bs++[.row (cellsOf (List.replicate n.toNat x)++List.replicate ((m.toNat-n.toNat)*sz) .top)],s.lo⟩) hd (λ_ _=>hK) λE G a w hs=>?_;have hlv:=hs.ev hl;rw[hle] at hlv;have hcv:=hs.ev hc;rw[hce] at hcv
  have hrun:(execOp a.eval o).run P w=.ok (.value (.slice (some ⟨w.heap.size,0,none⟩) n.toNat m.toNat)) (w.alloc (.cells ((Array.range (m.toNat*sz)).map λj=>z.cells[j %z.cells.size]!) e)):=by
   have hbm:(i.bytes:Int)*m<=281474976710656:=by
    have h4:(i.bytes:Int)<=4096:=by omega
    have:(i.bytes:Int)*m<=4096*4294967296:=Int.mul_le_mul h4 h2 (by omega) (by omega)
    omega
   have ha:IntKind.i64.wrap n=n:=wrap_i64 h0 (by omega)
   have hb':IntKind.i64.wrap m=m:=wrap_i64 (by omega) (by omega)
   have hm0:¬m<0:=by omega
   have hn0:¬n<0:=by omega
   have hnm:¬m<n:=by omega
   have hbm':¬281474976710656<(i.bytes:Int)*m:=by omega
   subst hsz;unfold execOp
   by_cases h5:m.toNat*i.size=0
   .simp [ho,Instr.makeSlice,run_underlying ht,hlv.aC,hcv.aC,asInt,asIntOf,typeInfo,hi,ha,hb',hm0,hn0,hnm,hbm',sizeOf,h5,newRow];rw[show Array.range 0=#[] from rfl];simp
   .simp [ho,Instr.makeSlice,run_underlying ht,hlv.aC,hcv.aC,asInt,asIntOf,typeInfo,hi,ha,hb',hm0,hn0,hnm,hbm',sizeOf,newRow,zeroValue,hz];exact λh6=>absurd h6 h5
  obtain⟨us,r1,r2⟩:=fG (M:=G.M) hx hok hflat hzs n.toNat m.toNat (by omega)
  obtain⟨c1,c2,_⟩:=(RV.flat (σ:=G.σ) (n:=s.bs.length) (gq (M:=G.M) hx)).cells hok
  have hzsr:∀y∈List.replicate n.toNat x,y.cells.length=sz:=λy hy=>by
   rw[(Ya.1 hy).2,<-c1,YH,hzs]
  have hcl:=bA hzsr;rw[Zf] at hcl;have hul:us.length=n.toNat*sz:=by rw[r1.1];simp
  have hnm:n.toNat*sz+(m.toNat-n.toNat)*sz=m.toNat*sz:=by
   rw[<-YK];congr 1;omega
  have h7:=hs.s6 (.row (cellsOf (List.replicate n.toNat x)++List.replicate ((m.toNat-n.toNat)*sz) .top)) (cellsOf (List.replicate n.toNat x)++List.replicate ((m.toNat-n.toNat)*sz) .top) rfl (λds e=>by
   rw[lx] at e;split at e
   .cases e
   .cases e;rfl) ((Array.range (m.toNat*sz)).map λj=>z.cells[j %z.cells.size]!).toList e (by
    simp only[ZC,Zf,hcl,YH,Array.size_map,Array.size_range];omega) (λu hu=>by
    simp only[Array.toList_map,Zk] at hu;obtain⟨j,hj,rfl⟩:=hu;have hp:0<z.cells.size:=by omega
    have hlt:j %z.cells.size<z.cells.size:=Xf _ hp;have hm:=c2 (z.cells[j %z.cells.size]'hlt) (by simp)
    rw[getElem!_pos z.cells _ hlt];exact hm) (λj hj u hu=>by
    by_cases hj1:j<(cellsOf (List.replicate n.toNat x)).length
    .rw [YF hj1];have hju:j<us.length:=by omega
     have h8:=r2 j us[j] (ZA hju);rw[<-Array.getElem?_toList,hu] at h8;cases h8;exact .flat (r1.at_ j hj1 _ (ZA hju))
    .rw [YX (by omega),XC]
     exact .flat (.top _))
  refine⟨(),_,_,_,trivial,hrun,h7,?_⟩;exact RV.bsl (M:=G.M) (σ:=λb=>if b=s.bs.length then w.heap.size else G.σ b) (n:=(s.bs++[Box.row (cellsOf (List.replicate n.toNat x)++List.replicate ((m.toNat-n.toNat)*sz) .top)]).length) s.bs.length n.toNat m.toNat (some ⟨w.heap.size,0,none⟩) (by simp) (by omega) (by first|(unfold glim;omega)|(unfold lim;omega)) (λ_=>by simp)
 .exact h.elim
def Jb(z:Nat)(vals:List AV)(s:St)(K:AV->St->Prop):Prop:=
 (0<z/\∀v∈vals,(aV v=true/\v.flat=true)/\v.cells.length=z)/\K (.bsl s.bs.length vals.length vals.length) ⟨s.env,s.bs++[.row (cellsOf vals)],s.lo⟩
theorem Fq{s:St}{o:Oper}{t e:TypeId}{n:Nat}{ps:Array (Nat×Operand)}(ho:o.op=.buildSlice t n ps){i:TypeInfo}{z:Value}{sz:Nat}(ht:P.underlying t=some (.slice e))(hi:P.info? e=some i)(hz:i.zero=some z)(hsz:i.size=sz)(hlim:n*sz<=16777216)(hn:n<=glim)
  {rs:List Opd} (hl:ps.toList.length=rs.length) (hln:rs.length=n) (hp:∀i (h:i<ps.toList.length) (h':i<rs.length),ps.toList[i].1=i/\opd ps.toList[i].2=some rs[i]) {K:St->Prop}
  (h:Jb sz (rs.map s.ev) s λr s'=>K (s'.put o.dst r)):OpS P o s K:=by
 have hd:∀c,o.op≠.defer c:=λc e=>by rw[ho] at e;cases e
 obtain⟨⟨hz0,hall⟩,hK⟩:=h;subst hsz;rw[ZF] at hK;refine OpS.ex (ι:=Unit) (λ_=>True) (λ_=>.bsl s.bs.length rs.length rs.length) (λ_=>⟨s.env,s.bs++[.row (cellsOf (rs.map s.ev))],s.lo⟩) hd (λ_ _=>hK) λE G a w hs=>?_;have hall':∀(j:Nat) (hj:j<rs.length),(aV (s.ev rs[j])=true/\(s.ev rs[j]).flat=true)/\(s.ev rs[j]).cells.length=i.size:=λj hj=>hall _ (Zk.2 ⟨_,Zc hj,rfl⟩)
 have key:∀cs:Array Value,cs.size=n*i.size->∃vs us,Instr.fill (λj=>some (j*i.size,i.size)) cs (ps.map λx=>(x.1,a.eval x.2)).toList=some vs/\vs.size=n*i.size/\eS G.M i.size (rs.map s.ev) us/\∀(j:Nat) u,us[j]? =some u->vs[j]? =some u:=λcs hcs=>by
  obtain⟨vs,h1,h2,_,us,h4,h5⟩:=uP (G:=G) (n:=s.bs.length) (sz:=i.size) (ps.toList.map λx=>(x.1,a.eval x.2)) (rs.map s.ev) 0 cs (by simpa using hl) (λj hj=>by
   simp only[ZF] at hj;simp only[YA,YG];exact(hp j hj (by omega)).1) (λj hj hj'=>by
   simp only[ZF] at hj hj';simp only[YA];obtain⟨⟨q1,q2⟩,q3⟩:=hall' j hj';exact⟨hs.ev (hp j hj hj').2,q1,q2,q3⟩) (by rw[hcs];simp[hln])
  refine⟨vs,us,by simpa using h1,by rw[h2,hcs],h4,λj u hj=>?_⟩
  have:=h5 j u hj
  rwa [Nat.zero_mul,YG] at this
 have hsize:∀zs:Array Value,((Array.range (n*i.size)).map λj=>zs[j %zs.size]!).size=n*i.size:=λzs=>by simp
 obtain⟨vs,us,h1,h2,h3,h4⟩:=key ((Array.range (n*i.size)).map λj=>(if n*i.size=0 then #[] else z.cells)[j %(if n*i.size=0 then #[] else z.cells).size]!) (hsize _)
 have hcl:(cellsOf (rs.map s.ev)).length=n*i.size:=by
  rw[bA (z:=i.size) (λy hy=>by
   obtain⟨o,ho,rfl⟩:=Zk.1 hy;exact(hall _ (Zk.2 ⟨o,ho,rfl⟩)).2)]
  simp[hln]
 have hul:us.length=n*i.size:=by rw[h3.1];simp[hln]
 have hvu:vs.toList=us:=by
  apply List.ext_getElem (by rw[hul,YH,h2])
  intro j q1 q2;have:=h4 j us[j] (ZA q2);rw[Zi (by simpa using q1)] at this
  simpa using XV this
 have hone:∀u∈us,u.oneCell'=true:=λu hu=>by
  obtain⟨j,hj,rfl⟩:=Yb.1 hu
  have hq:j/i.size<(rs.map s.ev).length:=by
   rw[ZF,hln];exact(Yy hz0).2 (by omega)
  obtain⟨a1,a2⟩:=h3.2 _ hq;obtain⟨u',b1,b2,_⟩:=a2 (j %i.size) (by rw[a1];exact Xf _ hz0)
  have hjj:j/i.size*i.size+j %i.size=j:=by have:=XR j i.size;rw[Xa] at this;exact this
  rw[hjj,ZA hj] at b1;cases b1;exact b2
 have h7:=hs.s6 (.row (cellsOf (rs.map s.ev))) (cellsOf (rs.map s.ev)) rfl (λds e=>by
   rw[lx] at e;split at e
   .cases e
   .cases e;rfl) vs.toList e (by rw[hvu,hul,hcl];exact ZG _) (λu hu=>hone u (hvu▸hu)) (λj hj u hu=>.flat (h3.at_ j hj u (hvu▸hu)))
 refine⟨(),.slice (some ⟨w.heap.size,0,none⟩) rs.length rs.length,_,_,trivial,?_,h7,?_⟩
 .have he:(ps.map λ(x:Nat×Operand)=>match x with|(i,x)=>(i,a.eval x)).toList=(ps.map λx=>(x.1,a.eval x.2)).toList:=rfl;have hlim':¬(n*i.size>2^24):=by omega
  unfold execOp;simp only[ho,Instr.buildSlice,Xi,run_underlying ht,Xh,sizeOf,typeInfo,run_program,hi,Xj,if_neg hlim']
  by_cases h0:n*i.size=0
  .simp only[h0,if_true] at h1|-;simp only[Xi,Xj,Xh];rw[he,h1,hln];rfl
  .simp only[h0,if_false] at h1|-;simp only[Xi,zeroValue,typeInfo,run_program,hi,hz,Xj,Xh];rw[he,h1,hln];rfl
 .exact RV.bsl (M:=G.M) (σ:=λb=>if b=s.bs.length then w.heap.size else G.σ b) (n:=(s.bs++[Box.row (cellsOf (rs.map s.ev))]).length) s.bs.length rs.length rs.length (some ⟨w.heap.size,0,none⟩) (by simp) (ZG _) (by rw[hln];exact hn) (λ_=>by simp)
def lP:List (Int×AV)->Int->Option AV
 |[],_=>none
 |(k,x)::l,n=>if n=k then some x else lP l n
def fw:List (Int×AV)->Int->AV->List (Int×AV)
 |[],n,y=>[(n,y)]
 |(k,x)::l,n,y=>if n=k then (k,y)::l else (k,x)::fw l n y
def iU:List (Int×AV)->Int->Nat->Option (Nat×Value)
 |[],_,_=>none
 |(k,x)::l,n,j=>if n=k then some (j,vOf x) else iU l n (j+1)
theorem q9:∀(l:List (Int×AV)) (n:Int) (j:Nat),match lP l n with
  |some x=>∃i,iU l n j=some (i,vOf x)
  |none=>iU l n j=none
 |[],n,j=>rfl
 |(k,x)::l,n,j=>by
  simp only[lP,iU]
  by_cases h:n=k
  .simp only[if_pos h];exact⟨j,rfl⟩
  .simp only[if_neg h];exact q9 l n (j+1)
theorem sj{ik:IntKind}(n:Int):∀(l:List (Int×AV)) (i j:Nat),Instr.findNow (.int ik) (.int .i64 n) (cP i l) j=some (iU l n j)
 |[],i,j=>rfl
 |(k,x)::l,i,j=>by
  simp only[cP,Instr.findNow,Instr.sameNow,iU]
  by_cases h:n=k
  .subst h;simp
  .simp only[if_true,h,if_false];rw[show (n==k)=false by simpa using h]
   exact sj n l (i+1) (j+1)
theorem q8(n:Int)(y:AV):∀(l:List (Int×AV)) (i j:Nat),iU l n j=none->cP i (fw l n y)=cP i l++[{key:=.int .i64 n,val:=vOf y,born:=i+l.length}]/\(fw l n y).length=l.length+1
 |[],i,j,_=>⟨rfl,rfl⟩
 |(k,x)::l,i,j,h=>by
  simp only[iU] at h;split at h
  .cases h
  .rename_i hk;obtain⟨h1,h2⟩:=q8 n y l (i+1) (j+1) h;simp only[fw,if_neg hk,cP,h1,Ze,ZX,h2];exact⟨by rw[show i+1+l.length=i+(l.length+1) by omega],trivial⟩
theorem xp(n:Int)(y:AV):∀(l:List (Int×AV)) (i j p:Nat) (u:Value),iU l n j=some (p,u)->j<=p/\cP i (fw l n y)=(cP i l).modify (p-j) (λe=>{e with key:=.int .i64 n,val:=vOf y})/\(fw l n y).length=l.length/\((cP i l)[p-j]?).map (·.key)=some (.int .i64 n)
 |[],i,j,p,u,h=>by cases h
 |(k,x)::l,i,j,p,u,h=>by
  simp only[iU] at h;split at h
  .rename_i hk;cases h;subst hk;simp[fw,cP]
  .rename_i hk;obtain⟨h0,h1,h2,h3⟩:=xp n y l (i+1) (j+1) p u h;obtain⟨q,rfl⟩:∃q,p=j+1+q:=⟨p-(j+1),by omega⟩
   rw[show j+1+q-(j+1)=q by omega] at h1 h3
   rw[show j+1+q-j=q+1 by omega]
   refine⟨by omega,?_,?_,?_⟩
   .simp only[fw,if_neg hk,cP,h1,List.modify_succ_cons]
   .simp only[fw,if_neg hk,ZX,h2]
   .simpa [cP] using h3
theorem eI{bs:List Box}{l:List (Int×AV)}(b:Nat):aa (bs++[.mp l]) b=aa bs b:=by
 rw[aS];split
 .rename_i e;subst e;simp[aa,Box.cs?]
 .rfl
theorem nH{bs:List Box}{l:List (Int×AV)}(b:Nat):ag (bs++[.mp l]) b=if b=bs.length then some (EL l) else ag bs b:=by
 simp only[ag]
 by_cases h:b<bs.length
 .rw [ZK h,if_neg (by omega)]
 .by_cases h2:b=bs.length
  .subst h2;simp[Box.lb?]
  .rw [if_neg h2,ZR (by simp;omega),ZR (by omega)]
theorem Az(es:List MapEntry)(n:Nat){M:Hp}:(mLB es n).M.le M/\(mLB es n).n=0:=⟨(λ_ _ _ h=>by cases h),rfl⟩
theorem EK(l:List (Int×AV)){M:Hp}:(EL l).M.le M/\(EL l).n=0:=Az _ _
theorem RS.Ki(h:RS E G s a w):RS E ⟨G.M,λb=>if b=s.bs.length then w.heap.size else G.σ b,G.cl⟩ ⟨s.env,s.bs++[.mp []],s.lo⟩ a (w.alloc (.map #[] 0)):=by
 have hw:∀B,B<w.heap.size->(w.alloc (.map #[] 0)).heap[B]? =w.heap[B]?:=λB hB=>Below.heap_alloc _ _ _ hB
 have hg:=h.grow (M':=G.M) (w':=w.alloc (.map #[] 0)) ⟨rfl,rfl,rfl,by simp,Hp.le_refl _,λB hB _=>hw B hB,λ_ _ _ _=>rfl⟩ (λb o v hv=>by
  have:=h.ok b o v hv;simp only[Hp.of] at this|-;rw[bK (hw b (Hp.lt h.ok hv))];exact this)
 have hsz:E.w.heap.size<=w.heap.size:=h.fr.size;have hL:(w.alloc (.map #[] 0)).heap[w.heap.size]? =some (.map #[] 0):=World.alloc_heap_new w _;generalize w.alloc (.map #[] 0)=w' at*
 have hat:∀p,(⟨s.env,s.bs++[.mp []],s.lo⟩:St).at p=s.at p:=λp=>by
  cases p with
  |sl t=>rfl
  |bx b j=>simp only[St.at,eI]
 have hσ:∀b,b<s.bs.length->(if b=s.bs.length then w.heap.size else G.σ b)=G.σ b:=λb hb=>by rw[if_neg (by omega)]
 have hval:∀p x,s.at p=some x->al (λb=>if b=s.bs.length then w.heap.size else G.σ b) a w' p=al G.σ a w' p:=λp x hp=>by
  cases p with
  |sl t=>rfl
  |bx b j=>
   simp only[St.at] at hp
   cases hb:aa s.bs b with
   |none=>rw[hb] at hp;cases hp
   |some cs=>simp only[al];rw[hσ b (aA hb)]
 have hnocl:∀B,w.heap.size<=B->∀p,G.cl p≠some B:=λB hB p hp=>by
  have:=(h.cllt p B hp).1;omega
 refine⟨hg.fr,hg.ok,h.nt,λp x hp=>?_,λb j x hp=>?_,λb cs hb=>?_,λb cs hb=>?_,λb b' cs cs' hb hb' e=>?_,λp z l hp=>?_,h.clinj,λp B hB b cs hb=>?_,hg.cllt,h.lo,by simp only[ZC];exact Nat.le_add_right_of_le h.len,λb hb=>?_,?_⟩
 .rw [hat] at hp;rw[hval p x hp];exact(hg.val p x hp).mono (Hp.le_refl _) (by simp) hσ
 .rw [hat] at hp;rw[hval _ x hp];exact hg.one b j x hp
 .rw [eI] at hb;simp only[hσ b (aA hb)];exact hg.box b cs hb
 .rw [eI] at hb;simp only[hσ b (aA hb)];exact hg.bmem b cs hb
 .rw [eI] at hb hb';simp only[hσ b (aA hb),hσ b' (aA hb')] at e;exact h.inj b b' cs cs' hb hb' e
 .rw [hat] at hp;rw[hval p _ hp];exact hg.own p z l hp
 .rw [eI] at hb;simp only[hσ b (aA hb)];exact h.clbox p B hB b cs hb
 .have:=h.len;simp only[hσ b (by omega)]
  exact h.sig b hb
 .have hold:∀b x,ag s.bs b=some x->G.σ b<w.heap.size:=λb x hb=>(Zh.1 (h.sp.ob _ _ (.inl ⟨b,x,hb,rfl,rfl⟩)).1).1;refine⟨λB o hs=>?_,λb x hb=>?_,λb b' x x' hb hb' e=>?_,h.sp.ds⟩
  .rcases hs with ⟨b,x,hb,e,rfl⟩|⟨hm,rfl⟩
   .rw [nH] at hb;split at hb
    .rename_i eb;cases hb;simp only[eb,if_true] at e;subst e;exact⟨hL,hnocl _ (ZG _),.inr hsz⟩
    .simp only at e;rw[hσ b (aO hb)] at e;exact hg.sp.ob B _ (.inl ⟨b,x,hb,e,rfl⟩)
   .exact hg.sp.ob B _ (.inr ⟨hm,rfl⟩)
  .rw [nH] at hb;split at hb
   .cases hb;exact⟨(EK []).1,ZJ _,λc hc=>absurd hc (Yn _)⟩
   .obtain ⟨h1,h2,h3⟩:=h.sp.base b x hb;have:=aO hb;exact⟨h1,h2,λc hc=>(hσ c (by omega)).trans (h3 c hc)⟩
  .rw [nH] at hb hb';split at hb
   .rename_i eb;split at hb'
    .rename_i eb';rw[eb,eb']
    .simp only at e;rw[hσ b' (aO hb'),if_pos eb] at e;exact absurd (hold b' x' hb') (by omega)
   .split at hb'
    .rename_i eb';simp only at e;rw[hσ b (aO hb),if_pos eb'] at e;exact absurd (hold b x hb) (by omega)
    .simp only[hσ b (aO hb),hσ b' (aO hb')] at e;exact h.sp.inj b b' x x' hb hb' e
theorem Bv{bs:List Box}{b:Nat}{x y:Box}(h:bs[b]? =some x)(hx:x.cs? =none)(hy:y.cs? =none)(c:Nat):aa (bs.set b y) c=aa bs c:=by
 have hb:b<bs.length:=(ZB.1 h).1
 by_cases e:b=c
 .subst e;simp only[aa,h,Zq,if_true,hb,hx,hy]
 .simp only[aa,Zq,if_neg e]
theorem pv{bs:List Box}{b:Nat}{x y:Box}{z:LB}(h:bs[b]? =some x)(hy:y.lb? =some z)(c:Nat):ag (bs.set b y) c=if c=b then some z else ag bs c:=by
 have hb:b<bs.length:=(ZB.1 h).1;simp only[ag,Zq]
 by_cases e:b=c
 .subst e;simp[hb,hy]
 .rw [if_neg e,if_neg (λk=>e k.symm)]
theorem RS.ui(h:RS E G s a w){b:Nat}{x:Box}{es:List MapEntry}{n:Nat}(hb:s.bs[b]? =some x)(hx:x.lb? =some (mLB es n)):w.heap[G.σ b]? =some (.map es.toArray n)/\(∀p,G.cl p≠some (G.σ b))/\(E.FP (G.σ b)\/E.w.heap.size<=G.σ b):=
 h.sp.ob (G.σ b) _ (.inl ⟨b,mLB es n,by simp[ag,hb,hx],rfl,rfl⟩)
theorem RS.DH(h:RS E G s a w){b:Nat}{l:List (Int×AV)}(hb:s.bs[b]? =some (.mp l)):w.heap[G.σ b]? =some (.map (dm l) l.length)/\(∀p,G.cl p≠some (G.σ b))/\(E.FP (G.σ b)\/E.w.heap.size<=G.σ b):=
 h.ui hb rfl
theorem RS.yu(h:RS E G s a w){b:Nat}{x y:Box}{es es':List MapEntry}{n n':Nat}(hb:s.bs[b]? =some x)(hx:x.lb? =some (mLB es n))(hxc:x.cs? =none)(hyc:y.cs? =none)(hy:y.lb? =some (mLB es' n')):RS E G ⟨s.env,s.bs.set b y,s.lo⟩ a (w.putObj (G.σ b) (.map es'.toArray n')):=by
 obtain⟨h1,h2,h3⟩:=h.ui hb hx;have hlb:ag s.bs b=some (mLB es n):=by simp[ag,hb,hx]
 have hlt:G.σ b<w.heap.size:=(Zh.1 h1).1;refine h.Ih (.map es'.toArray n') h1 rfl h3 (by simp) (Bv hb hxc hyc) ⟨λB o hs=>?_,λc z hc=>?_,λc c' z z' hc hc' e=>?_,h.sp.ds⟩
 .rcases hs with ⟨c,z,hc,e,ho⟩|⟨hm,ho⟩
  .rw [pv hb hy] at hc;split at hc
   .rename_i ec;cases hc;subst ec e ho;exact⟨World.putObj_heap_same hlt,h2,h3⟩
   .rename_i ec;obtain⟨h4,h5,h6⟩:=h.sp.ob B o (.inl ⟨c,z,hc,e,ho⟩);have hne:B≠G.σ b:=λe2=>ec (h.sp.inj c b z _ hc hlb (e.trans e2));exact⟨by rw[World.putObj_heap_other hne];exact h4,h5,h6⟩
  .obtain ⟨h4,h5,h6⟩:=h.sp.ob B o (.inr ⟨hm,ho⟩)
   have hne:B≠G.σ b:=λe2=>by
    rw[e2,h1,ho] at h4;cases h4
   exact⟨by rw[World.putObj_heap_other hne];exact h4,h5,h6⟩
 .rw [pv hb hy] at hc;split at hc
  .cases hc;exact⟨(Az _ _).1,ZJ _,λc hc=>absurd hc (Yn _)⟩
  .exact h.sp.base c z hc
 .rw [pv hb hy] at hc hc';split at hc
  .rename_i ec;split at hc'
   .rename_i ec';rw[ec,ec']
   .rename_i ec';rw[ec] at e;exact absurd (h.sp.inj c' b z' _ hc' hlb e.symm) ec'
  .rename_i ec;split at hc'
   .rename_i ec';rw[ec'] at e;exact absurd (h.sp.inj c b z _ hc hlb e) ec
   .exact h.sp.inj c c' z z' hc hc' e
theorem RS.B8(h:RS E G s a w){b:Nat}{l:List (Int×AV)}(hb:s.bs[b]? =some (.mp l))(l':List (Int×AV)):RS E G ⟨s.env,s.bs.set b (.mp l'),s.lo⟩ a (w.putObj (G.σ b) (.map (dm l') l'.length)):=
 h.yu hb rfl rfl rfl rfl
def Cg:List (Int×AV×Nat)->Int->Option AV
 |[],_=>none
 |(k,x,_)::l,n=>if n=k then some x else Cg l n
def oY:List (Int×AV×Nat)->Int->AV->Nat->List (Int×AV×Nat)
 |[],n,y,c=>[(n,y,c)]
 |(k,x,b)::l,n,y,c=>if n=k then (k,y,b)::l else (k,x,b)::oY l n y c
def tJ:List (Int×AV×Nat)->Int->Nat->Nat
 |[],_,c=>c+1
 |(k,_,_)::l,n,c=>if n=k then c else tJ l n c
def qS:List (Int×AV×Nat)->Int->List (Int×AV×Nat)
 |[],_=>[]
 |(k,x,b)::l,n=>if n=k then l else (k,x,b)::qS l n
def hU:List (Int×AV×Nat)->Int->Nat->Option (Nat×Value)
 |[],_,_=>none
 |(k,x,_)::l,n,j=>if n=k then some (j,vOf x) else hU l n (j+1)
theorem w8:∀(l:List (Int×AV×Nat)) (n:Int) (j:Nat),match Cg l n with
  |some x=>∃i,hU l n j=some (i,vOf x)
  |none=>hU l n j=none
 |[],n,j=>rfl
 |(k,x,b)::l,n,j=>by
  simp only[Cg,hU]
  by_cases h:n=k
  .simp only[if_pos h];exact⟨j,rfl⟩
  .simp only[if_neg h];exact w8 l n (j+1)
theorem uO{ik:IntKind}(n:Int):∀(l:List (Int×AV×Nat)) (j:Nat),Instr.findNow (.int ik) (.int .i64 n) (mqE l) j=some (hU l n j)
 |[],j=>rfl
 |(k,x,b)::l,j=>by
  have ih:=uO (ik:=ik) n l (j+1);simp only[mqE] at ih;simp only[mqE,ZP,Instr.findNow,Instr.sameNow,hU]
  by_cases h:n=k
  .subst h;simp
  .simp only[if_true,h,if_false];rw[show (n==k)=false by simpa using h]
   exact ih
theorem w7(n:Int)(y:AV)(c:Nat):∀(l:List (Int×AV×Nat)) (j:Nat),hU l n j=none->mqE (oY l n y c)=mqE l++[{key:=.int .i64 n,val:=vOf y,born:=c}]/\tJ l n c=c+1
 |[],j,_=>⟨rfl,rfl⟩
 |(k,x,b)::l,j,h=>by
  simp only[hU] at h;split at h
  .cases h
  .rename_i hk;obtain⟨h1,h2⟩:=w7 n y c l (j+1) h;simp only[oY,tJ,if_neg hk];refine⟨?_,h2⟩;simp only[mqE,ZP,Ze] at h1|-;rw[h1]
theorem qR(n:Int)(y:AV)(c:Nat):∀(l:List (Int×AV×Nat)) (j p:Nat) (u:Value),hU l n j=some (p,u)->j<=p/\mqE (oY l n y c)=(mqE l).modify (p-j) (λe=>{e with key:=.int .i64 n,val:=vOf y})/\tJ l n c=c/\((mqE l)[p-j]?).map (·.key)=some (.int .i64 n)/\mqE (qS l n)=(mqE l).eraseIdx (p-j)/\p-j<(mqE l).length
 |[],j,p,u,h=>by cases h
 |(k,x,b)::l,j,p,u,h=>by
  simp only[hU] at h;split at h
  .rename_i hk;cases h;subst hk;simp[oY,tJ,mqE,qS]
  .rename_i hk;obtain⟨h0,h1,h2,h3,h4,h5⟩:=qR n y c l (j+1) p u h;obtain⟨q,rfl⟩:∃q,p=j+1+q:=⟨p-(j+1),by omega⟩
   rw[show j+1+q-(j+1)=q by omega] at h1 h3 h4 h5
   rw[show j+1+q-j=q+1 by omega]
   simp only[mqE] at h1 h3 h4 h5;refine⟨by omega,?_,?_,?_,?_,?_⟩
   .simp only[oY,if_neg hk,mqE,ZP,h1,List.modify_succ_cons]
   .simp only[tJ,if_neg hk,h2]
   .simpa [mqE] using h3
   .simp only[qS,if_neg hk,mqE,ZP,h4,List.eraseIdx_cons_succ]
   .simp [mqE] at h5|-;exact h5
theorem w9(n:Int):∀(l:List (Int×AV×Nat)) (j:Nat),hU l n j=none->qS l n=l
 |[],j,_=>rfl
 |(k,x,b)::l,j,h=>by
  simp only[hU] at h;split at h
  .cases h
  .rename_i hk;simp only[qS,if_neg hk,w9 n l (j+1) h]
def dB:AV->Bool
 |.bool _=>true
 |.int _ _=>true
 |.agg cs=>cs.all λc=>match c with
  |.bool _=>true
  |.int _ _=>true
  |_=>false
 |_=>false
theorem nZ{M:Hp}{σ:Nat->Nat}{n:Nat}{x:AV}{v:Value}(hx:dB x=true)(h:RV M σ n x v):v=vOf x:=by
 unfold dB at hx;split at hx
 .exact h.cB
 .exact h.aC
 .rename_i cs;obtain⟨vs,rfl,hl,_,hv⟩:=h.eA;simp only[vOf];congr 2;apply List.ext_getElem (by simpa using hl)
  intro i h1 h2;have hi:i<cs.length:=by omega
  have h3:=hv i hi vs[i] (ZA h1);have h4:=ZS.1 hx _ (Zc hi);rw[YA];generalize cs[i]=c at h3 h4;split at h4
  .exact h3.cB
  .exact h3.aC
  .cases h4
 .cases hx
theorem FT{M:Hp}{σ:Nat->Nat}{n:Nat}{x:AV}(hx:dB x=true):RV M σ n x (vOf x):=by
 unfold dB at hx;split at hx
 .exact .flat (.bool _)
 .exact .flat (.int _ _)
 .rename_i cs;refine .flat (.agg cs (cs.map KR) (by simp) (λv hv=>?_) (λj h v hv=>?_))
  .obtain ⟨c,hc,rfl⟩:=Zk.1 hv;have h4:=ZS.1 hx _ hc;split at h4
   .rfl
   .rfl
   .cases h4
  .have h4:=ZS.1 hx _ (Zc h);rw[YD,ZA h] at hv;simp only[ZM,ZN] at hv;subst hv;generalize cs[j]=c at h4;split at h4
   .exact .bool _
   .exact .int _ _
   .cases h4
 .cases hx
theorem wA{s:St}{o:Oper}{t:TypeId}{r:Option Operand}{rr:Option Opd}(ho:o.op=.makeMap t r)(hr:lG r=some rr){kt et:TypeId}(ht:P.underlying t=some (.map kt et)){K:St->Prop}
  (h:(match rr.map s.ev with|none=>True|some (.int _ _)=>True|_=>False)/\K (St.put ⟨s.env,s.bs++[.mp []],s.lo⟩ o.dst (.mpt s.bs.length))):OpS P o s K:=by
 have hd:∀c,o.op≠.defer c:=λc e=>by rw[ho] at e;cases e
 refine OpS.val (.mpt s.bs.length) ⟨s.env,s.bs++[.mp []],s.lo⟩ hd h.2 λE G a w hs=>?_;refine⟨.map (some w.heap.size),_,_,?_,hs.Ki,?_⟩
 .unfold execOp
  cases r with
  |none=>simp[ho,Instr.makeMap]
  |some x=>
   simp only[lG] at hr;split at hr
   .rename_i rx hx;cases hr;have h1:=h.1;simp only[ZM] at h1;split at h1
    .rename_i heq;cases heq
    .rename_i k n heq;simp only[ZN] at heq;have hv:=hs.ev hx;rw[heq] at hv;simp[ho,Instr.makeMap,run_underlying ht,hv.aC,asInt,asIntOf]
    .exact h1.elim
   .cases hr
 .have:=RV.mpt (M:=G.M) (σ:=λb=>if b=s.bs.length then w.heap.size else G.σ b) (n:=(s.bs++[Box.mp []]).length) s.bs.length (by simp)
  simpa using this
def th(s:St)(m k v:AV)(K:St->Prop):Prop:=
 match m,k with
 |.mpt b,.int .i64 n=>match s.bs[b]? with
  |some (.mp l)=>dB v=true/\K ⟨s.env,s.bs.set b (.mp (fw l n v)),s.lo⟩
  |some (.mq l c)=>dB v=true/\K ⟨s.env,s.bs.set b (.mq (oY l n v c) (tJ l n c)),s.lo⟩
  |_=>False
 |_,_=>False
theorem bl{w:World}{r:Nat}{o:Obj}(h:w.heap[r]? =some o)(hk:o.isCells=false):(getObj r).run P w=.ok o w:=by
 cases o<;>first|(simp[getObj,Sem.run,h];done)|cases hk
theorem cn{w:World}{r n:Nat}{es:Array MapEntry}{o':Obj}(h:w.heap[r]? =some (.map es n)):(setObj r o').run P w=.ok () (w.putObj r o'):=by
 simp[setObj,Sem.run,h,World.putObj]
theorem a7{kt:TypeId}{ik:IntKind}(hkt:P.underlying kt=some (.int ik))(e:Bool)(n:Int)(w:World):(Instr.checkKey e 10000 kt (.int .i64 n)).run P w=.ok () w:=by
 show (Instr.checkKey e (9999+1) kt (.int .i64 n)).run P w=.ok () w;unfold Instr.checkKey;simp only[Xi,run_underlying hkt,Xh];rfl
theorem dX{kt:TypeId}{ik:IntKind}(hkt:P.underlying kt=some (.int ik))(n:Int)(l:List (Int×AV))(w:World):(Instr.findKey kt (.int .i64 n) (dm l).toList).run P w=.ok (iU l n 0) w:=by
 simp only[Instr.findKey,Xi,run_underlying hkt,Xh,dm,sj];rfl
theorem fT{kt:TypeId}{ik:IntKind}(hkt:P.underlying kt=some (.int ik))(n:Int)(l:List (Int×AV×Nat))(w:World):(Instr.findKey kt (.int .i64 n) (mqE l).toArray.toList).run P w=.ok (hU l n 0) w:=by
 simp only[Instr.findKey,Xi,run_underlying hkt,Xh,uO];rfl
theorem sS{s:St}{o:Oper}{t:TypeId}{m k v:Operand}(ho:o.op=.mapUpdate t m k v)(hdn:o.dst=none){rm rk rv:Opd}(hm:opd m=some rm)(hk:opd k=some rk)(hv:opd v=some rv){kt et:TypeId}{ik:IntKind}(ht:P.underlying t=some (.map kt et))(hkt:P.underlying kt=some (.int ik)){K:St->Prop}
  (h:th s (s.ev rm) (s.ev rk) (s.ev rv) K):OpS P o s K:=by
 have hd:∀c,o.op≠.defer c:=λc e=>by rw[ho] at e;cases e
 unfold th at h;split at h
 .rename_i b n hme hke;split at h
  .rename_i l hb;obtain⟨hok,hK⟩:=h;refine OpS.skip _ hd hdn hK λE G a w hs=>?_;have hmv:=hs.ev hm;rw[hme] at hmv;have hkv:=hs.ev hk;rw[hke] at hkv;have hvv:=nZ hok (hs.ev hv);obtain⟨h1,_,_⟩:=hs.DH hb;refine⟨G,_,?_,hs.B8 hb _⟩;have e1:=hmv.gh.1;have e2:=hkv.aC;have hf:=dX hkt n l w;unfold execOp
   cases hq:iU l n 0 with
   |none=>
    rw[hq] at hf;obtain⟨h2,h3⟩:=q8 n (s.ev rv) l 0 0 hq
    have he:(dm l).push {key:=.int .i64 n,val:=vOf (s.ev rv),born:=l.length}=dm (fw l n (s.ev rv)):=by
     simp only[dm,h2,YG];simp
    simp only[ho,Instr.mapUpdate,e1,e2,hvv,Xi,run_underlying ht,Xh,bl h1 rfl,a7 hkt,hf,cn h1,he,h3]
    rfl
   |some q=>
    obtain⟨i,u⟩:=q;rw[hq] at hf;obtain⟨_,h2,h3,h4⟩:=xp n (s.ev rv) l 0 0 i u hq;rw[XL] at h2 h4
    have he:(dm l).modify i (λe=>{e with key:=.int .i64 n,val:=vOf (s.ev rv)})=dm (fw l n (s.ev rv)):=by
     simp only[dm,h2];apply Array.ext';simp
    have hkey:(((dm l)[i]?).map (·.key)).getD (.int .i64 n)=.int .i64 n:=by
     simp only[dm,Xd,h4,YR]
    have hstay:∀w':World,(Instr.keyThatStays (.int .i64 n) (.int .i64 n)).run P w'=.ok (.int .i64 n) w':=λw'=>by
     simp[Instr.keyThatStays,Instr.sameBits]
    simp only[ho,Instr.mapUpdate,e1,e2,hvv,Xi,run_underlying ht,Xh,bl h1 rfl,a7 hkt,hf,hkey,hstay,cn h1,he,h3];rfl
  .rename_i l c hb;obtain⟨hok,hK⟩:=h;refine OpS.skip _ hd hdn hK λE G a w hs=>?_;have hmv:=hs.ev hm;rw[hme] at hmv;have hkv:=hs.ev hk;rw[hke] at hkv;have hvv:=nZ hok (hs.ev hv);obtain⟨h1,_,_⟩:=hs.ui hb rfl;refine⟨G,_,?_,hs.yu hb rfl rfl rfl rfl⟩;have e1:=hmv.gh.1;have e2:=hkv.aC;have hf:=fT hkt n l w;unfold execOp
   cases hq:hU l n 0 with
   |none=>
    rw[hq] at hf;obtain⟨h2,h3⟩:=w7 n (s.ev rv) c l 0 hq
    have he:(mqE l).toArray.push {key:=.int .i64 n,val:=vOf (s.ev rv),born:=c}=(mqE (oY l n (s.ev rv) c)).toArray:=by
     rw[h2];simp
    simp only[ho,Instr.mapUpdate,e1,e2,hvv,Xi,run_underlying ht,Xh,bl h1 rfl,a7 hkt,hf,cn h1,he,h3]
    rfl
   |some q=>
    obtain⟨i,u⟩:=q;rw[hq] at hf;obtain⟨_,h2,h3,h4,_,_⟩:=qR n (s.ev rv) c l 0 i u hq;rw[XL] at h2 h4
    have he:(mqE l).toArray.modify i (λe=>{e with key:=.int .i64 n,val:=vOf (s.ev rv)})=(mqE (oY l n (s.ev rv) c)).toArray:=by
     rw[h2];apply Array.ext';simp
    have hkey:(((mqE l).toArray[i]?).map (·.key)).getD (.int .i64 n)=.int .i64 n:=by
     simp only[Xd,h4,YR]
    have hstay:∀w':World,(Instr.keyThatStays (.int .i64 n) (.int .i64 n)).run P w'=.ok (.int .i64 n) w':=λw'=>by
     simp[Instr.keyThatStays,Instr.sameBits]
    simp only[ho,Instr.mapUpdate,e1,e2,hvv,Xi,run_underlying ht,Xh,bl h1 rfl,a7 hkt,hf,hkey,hstay,cn h1,he,h3];rfl
  .exact h.elim
 .exact h.elim
theorem CZ(hs:RS E G s a w){b:Nat}{l:List (Int×AV×Nat)}{c:Nat}(hb:s.bs[b]? =some (.mq l c))(n:Int){t u kt et:TypeId}{ik:IntKind}(ht:P.underlying t=some (.map kt et))(hkt:P.underlying kt=some (.int ik))(ty:TypeId):
  ∃w',(Builtin.delete_ #[t,u] ty #[.map (some (G.σ b)),.int .i64 n]).run P w=.ok (.tuple #[]) w'/\RS E G ⟨s.env,s.bs.set b (.mq (qS l n) c),s.lo⟩ a w':=by
 obtain⟨h1,_,_⟩:=hs.ui hb rfl;refine⟨_,?_,hs.yu hb rfl rfl rfl rfl⟩;have hf:=fT hkt n l w;have hck:∀(e:Bool) (w:World),(Instr.checkKey e 10000 kt (.int .i64 n)).run P w=.ok () w:=λe w=>a7 hkt e n w
 cases hq:hU l n 0 with
 |none=>
  rw[hq] at hf;rw[w9 n l 0 hq]
  simp[Builtin.delete_,run_underlying ht,bl h1 rfl,hck,hf,cn h1]
 |some q=>
  obtain⟨i,u'⟩:=q;rw[hq] at hf;obtain⟨_,_,_,_,h5,h6⟩:=qR n .top c l 0 i u' hq;rw[XL] at h5 h6
  have he:(mqE l).toArray.eraseIdxIfInBounds i=(mqE (qS l n)).toArray:=by
   rw[h5];simp
  simp[Builtin.delete_,run_underlying ht,bl h1 rfl,hck,hf,cn h1,h5]
def okR(ok:Bool)(x:AV)(b:Bool):AV:=match ok with
 |true=>.tup [x,.bool b]
 |false=>x
def uI(ok:Bool)(z:AV)(s:St)(m k:AV)(K:AV->Prop):Prop:=
 match m,k with
 |.mpt b,.int .i64 n=>match s.bs[b]? with
  |some (.mp l)=>match lP l n with
   |some x=>dB x=true/\K (okR ok x true)
   |none=>K (okR ok z false)
  |some (.mq l _)=>match Cg l n with
   |some x=>dB x=true/\K (okR ok x true)
   |none=>K (okR ok z false)
  |_=>False
 |.nmp,.int .i64 _=>K (okR ok z false)
 |_,_=>False
theorem RV.I1{M:Hp}{σ:Nat->Nat}{n:Nat}{v:Value}(h:RV M σ n .nmp v):v=.map none:=by
 cases h with
 |flat h=>cases h;rfl
theorem yV{s:St}{o:Oper}{t:TypeId}{m k:Operand}{ok:Bool}(ho:o.op=.lookup t m k ok){rm rk:Opd}(hm:opd m=some rm)(hk:opd k=some rk){kt et:TypeId}{ik:IntKind}(ht:P.underlying t=some (.map kt et))(hkt:P.underlying kt=some (.int ik))
  {i:TypeInfo} {zv:Value} {z:AV} (hi:P.info? et=some i) (hz:i.zero=some zv) (hzx:dF zv=some z) {K:St->Prop} (h:uI ok z s (s.ev rm) (s.ev rk) λr=>K (s.put o.dst r)):OpS P o s K:=by
 have hd:∀c,o.op≠.defer c:=λc e=>by rw[ho] at e;cases e
 have tup:∀(M:Hp) (σ:Nat->Nat) (nb:Nat) (x:AV) (v:Value) (b:Bool),RV M σ nb x v->RV M σ nb (.tup [x,.bool b]) (.tuple #[v,.bool b]):=λM σ nb x v b hx=>by
  refine .tup _ [v,.bool b] rfl λj hj u hu=>?_
  match j,hj with
  |0,_=>simp at hu;subst hu;exact hx
  |1,_=>simp at hu;subst hu;exact .flat (.bool b)
 have fin:∀(x:AV) (b:Bool),(∃v:Value,(∀(M:Hp) (σ:Nat->Nat) (nb:Nat),RV M σ nb x v)/\∀E G a w,RS E G s a w->(Instr.lookup t (a.eval m) (a.eval k) ok).run P w=.ok (if ok then .tuple #[v,.bool b] else v) w)->K (s.put o.dst (okR ok x b))->OpS P o s K:=λx b ⟨v,hv,hrun⟩ hK=>by
  cases ok with
  |true=>
   refine OpS.pure _ hd hK λE G a w hs=>⟨_,?_,tup _ _ _ _ _ _ (hv _ _ _)⟩;unfold execOp;simp only[ho,hrun E G a w hs,Xi,Xh,if_true]
   rfl
  |false=>
   refine OpS.pure _ hd hK λE G a w hs=>⟨v,?_,hv _ _ _⟩;unfold execOp;simp only[ho,hrun E G a w hs,Xi,Xh];rfl
 have hzv:∀(M:Hp) (σ:Nat->Nat) (nb:Nat),RV M σ nb z zv:=λM σ nb=>.flat (gq hzx);have hzr:∀w:World,(zeroValue et).run P w=.ok zv w:=λw=>by simp[zeroValue,typeInfo,hi,hz]
 unfold uI at h;split at h
 .rename_i b n hme hke;split at h
  .rename_i l hb
   have hrun:∀E G a w,RS E G s a w->a.eval m=.map (some (G.σ b))/\a.eval k=.int .i64 n/\w.heap[G.σ b]? =some (.map (dm l) l.length):=λE G a w hs=>by
    have hmv:=hs.ev hm;rw[hme] at hmv;have hkv:=hs.ev hk;rw[hke] at hkv;exact⟨hmv.gh.1,hkv.aC,(hs.DH hb).1⟩
   have hg:=q9 l n 0;split at h
   .rename_i x hx;rw[hx] at hg;obtain⟨j,hj⟩:=hg;refine fin x true ⟨vOf x,λM σ nb=>FT h.1,λE G a w hs=>?_⟩ h.2;obtain⟨e1,e2,e3⟩:=hrun E G a w hs;have hf:=dX hkt n l w;rw[hj] at hf;simp only[Instr.lookup,e1,e2,Xi,run_underlying ht,Xh,bl e3 rfl,Xj,a7 hkt,hf]
   .rename_i hx;rw[hx] at hg;simp only at hg;refine fin z false ⟨zv,hzv,λE G a w hs=>?_⟩ h;obtain⟨e1,e2,e3⟩:=hrun E G a w hs;have hf:=dX hkt n l w;rw[hg] at hf;simp only[Instr.lookup,e1,e2,Xi,run_underlying ht,Xh,bl e3 rfl,Xj,a7 hkt,hf,hzr]
  .rename_i l c hb
   have hrun:∀E G a w,RS E G s a w->a.eval m=.map (some (G.σ b))/\a.eval k=.int .i64 n/\w.heap[G.σ b]? =some (.map (mqE l).toArray c):=λE G a w hs=>by
    have hmv:=hs.ev hm;rw[hme] at hmv;have hkv:=hs.ev hk;rw[hke] at hkv;exact⟨hmv.gh.1,hkv.aC,(hs.ui hb rfl).1⟩
   have hg:=w8 l n 0;split at h
   .rename_i x hx;rw[hx] at hg;obtain⟨j,hj⟩:=hg;refine fin x true ⟨vOf x,λM σ nb=>FT h.1,λE G a w hs=>?_⟩ h.2;obtain⟨e1,e2,e3⟩:=hrun E G a w hs;have hf:=fT hkt n l w;rw[hj] at hf;simp only[Instr.lookup,e1,e2,Xi,run_underlying ht,Xh,bl e3 rfl,Xj,a7 hkt,hf]
   .rename_i hx;rw[hx] at hg;simp only at hg;refine fin z false ⟨zv,hzv,λE G a w hs=>?_⟩ h;obtain⟨e1,e2,e3⟩:=hrun E G a w hs;have hf:=fT hkt n l w;rw[hg] at hf;simp only[Instr.lookup,e1,e2,Xi,run_underlying ht,Xh,bl e3 rfl,Xj,a7 hkt,hf,hzr]
  .exact h.elim
 .rename_i n hme hke;refine fin z false ⟨zv,hzv,λE G a w hs=>?_⟩ h;have hmv:=hs.ev hm;rw[hme] at hmv;have hkv:=hs.ev hk;rw[hke] at hkv;have e1:a.eval m=.map none:=hmv.I1;have hf:=dX (P:=P) hkt n [] w;simp only[iU] at hf;simp only[Instr.lookup,e1,hkv.aC,Xi,run_underlying ht,Xh,Xj,a7 hkt];rw[show ([]:List MapEntry)=(dm []).toList from rfl,hf];simp only[Xh,Xi,hzr,Xj]
 .exact h.elim
theorem EA{s:St}{o:Oper}{x hi:Operand}{t e:Nat}(ho:o.op=.slice t x none (some hi) none){rx rh:Opd}(hx:opd x=some rx)(hhi:opd hi=some rh){sz:Nat}(ht:P.underlying t=some (.slice e))(hsz:dn P e=some sz){ki:IntKind}(hxe:s.ev rx=.sl .full [])(hhe:s.ev rh=.int ki 0){K:St->Prop}
  (h:K (s.put o.dst (.sl .full []))):OpS P o s K:=by
 have hd:∀c,o.op≠.defer c:=λc e=>by rw[ho] at e;cases e
 refine OpS.pure _ hd h λE G a w hs=>?_;have hxv:=hs.ev hx;rw[hxe] at hxv;have hhv:=hs.ev hhi;rw[hhe] at hhv;have hhv:=hhv.aC;obtain⟨ad,kk,B,off,sz',h1,_,_,_,h2,_⟩:=hxv.ez;have:=h2 rfl;subst this;refine⟨.slice ad 0 0,?_,?_⟩
 .have e1:(Instr.sliceBounds true 0 0 none (some (.int ki 0)) none).run P w=.ok (0,0,0) w:=by
   unfold Instr.sliceBounds;simp[Instr.sliceBound,asIntOf]
  unfold execOp;simp only[ho,Instr.sliceAt,Xi,run_underlying ht,Xh,h1,Instr.slice,XU,ZM,hhv,YO,e1,aJ hsz,Xj];simp
 .have h1':a.eval x=.slice ad 0 0:=h1;rw[<-h1'];exact hxv
theorem Fo{s:St}{o:Oper}{x:Operand}{t e:Nat}(ho:o.op=.call {callee:=.builtin .cap,args:=#[x],argTypes:=#[t]}){rx:Opd}(hx:opd x=some rx)(ht:P.underlying t=some (.slice e)){K:St->Prop}(h:dA .cap [s.ev rx] λr=>K (s.put o.dst r)):OpS P o s K:=by
 have hd:∀c,o.op≠.defer c:=λc e=>by rw[ho] at e;cases e
 have hrun:∀(a:Act) (w:World) (ad:Option Addr) (m k:Nat),a.eval x=.slice ad m k->(execOp a.eval o).run P w=.ok (.value (.int .i64 k)) w:=λa w ad m k h=>by
  unfold execOp;simp[ho,resolve,invoke,builtin,Builtin.cap_,run_underlying ht,h,goInt]
 unfold dA at h;generalize hxe:s.ev rx=v at h;cases v<;>first|(simp[mI.val] at h;done)|skip
 .rename_i c l;cases c<;>first|(simp[mI.val] at h;done)|skip
  refine OpS.pure _ hd h λE G a w hs=>?_;have hxv:=hs.ev hx;rw[hxe] at hxv;obtain⟨ad,kk,B,off,sz',h1,_,_,_,h2,_⟩:=hxv.ez;have:=h2 rfl;subst this;exact⟨_,hrun a w _ _ _ h1,.flat (.int _ _)⟩
 .refine OpS.pure _ hd h λE G a w hs=>?_;have hxv:=hs.ev hx;rw[hxe] at hxv;obtain⟨ad,h1,_⟩:=hxv.dH;exact⟨_,hrun a w _ _ _ h1,.flat (.int _ _)⟩
theorem B0(ns:List Int):∀(b:ByteArray),(ns.foldl (λr n=>r.push (UInt8.ofNat n.toNat)) b).size=b.size+ns.length:=by
 induction ns with
 |nil=>intro b;simp
 |cons n ns ih=>intro b;rw[List.foldl_cons,ih,ByteArray.size_push,ZX];omega
theorem xG:∀{l:List AV} {ns:List Int},uD l=some ns->l=ns.map (AV.int .u8)
 |[],ns,h=>by cases h;rfl
 |x::l,ns,h=>by
  unfold uD at h;split at h
  .rename_i e;cases e
  .rename_i n r e;cases e;split at h
   .rename_i m hm;cases h;rw[xG hm];rfl
   .cases h
  .cases h
theorem Fp{s:St}{o:Oper}{x:Operand}{t u e:Nat}(ho:o.op=.convert t u x){rx:Opd}(hx:opd x=some rx)(ht:P.underlying t=some (.slice e))(he:P.underlying e=some (.int .u8))(hu:P.underlying u=some .string){K:St->Prop}(h:dA .bts [s.ev rx] λr=>K (s.put o.dst r)):OpS P o s K:=by
 have hd:∀c,o.op≠.defer c:=λc e=>by rw[ho] at e;cases e
 unfold dA at h;generalize hxe:s.ev rx=v at h;cases v<;>first|(simp[mI.val] at h;done)|skip
 rename_i oc l
 cases hn:uD l with
 |none=>simp[mI.val,hn] at h
 |some ns=>
  simp only[mI.val,hn] at h;have hl:=xG hn;refine OpS.pure _ hd h λE G a w hs=>?_;have hxv:=hs.ev hx;rw[hxe] at hxv;obtain⟨ad,k,B,off,hsv⟩:=hxv.sv (sz:=1) (λy hy=>by rw[hl] at hy;obtain⟨n,_,rfl⟩:=Zk.1 hy;rfl)
  have hlen:l.length=ns.length:=by rw[hl,ZF]
  have hcell:∀j (hj:j<ns.length),w.cell? ⟨B,off+j,none⟩=some (.int .u8 ns[j]):=λj hj=>by
   obtain⟨_,h2⟩:=hsv.el j (by omega)
   obtain⟨v,h3,_,h4⟩:=h2 0 (by simp[hl,AV.cells])
   have h5:=hs.ok _ _ _ h3;simp only[hl,YA,AV.cells,YP] at h4;cases h4;simp only[Hp.of,Nat.mul_one,Yi] at h5;exact h5
  refine⟨.string (strOf ns),?_,.flat (.str _ (by rw[strOf,B0,<-hlen];have:=hsv.len;simpa using this))⟩
  have hrun:(convert t u (a.eval x)).run P w=.ok (.string (strOf ns)) w:=by
   rw[hsv.eq,run_convert_bytes_string w t u e ad l.length k ht he hu]
   cases had:ad with
   |none=>
    have h0:l=[]:=Classical.byContradiction λh1=>by have:=hsv.at_ h1;rw[had] at this;cases this
    have h0':ns=[]:=by cases ns with|nil=>rfl|cons=>rw[hl] at h0;cases h0
    subst h0'
    simp[Conv.bytesToString,strOf]
   |some ad=>
    have hload:=run_loadCells_list (P:=P) (w:=w) ad (ns.map (Value.int .u8)) (λj v hj=>by
     have hj':j<ns.length:=by
      have:=(ZB.1 hj).1;simpa using this
     have h0:l≠[]:=λh1=>by rw[h1] at hlen;simp at hlen;omega
     have h1:=hsv.at_ h0;rw[had] at h1;cases h1;rw[bQ,hcell j hj'];simp[ZA hj'] at hj;rw[<-hj])
    rw[ZF] at hload;rw[hlen];exact run_bytesToString w ad ns.length k ns hload
  unfold execOp;simp only[ho,Xi,hrun,Xh,Xj]
theorem EU{s:St}{o:Oper}{t:TypeId}{x:Operand}(ho:o.op=.load t x){rx:Opd}(hx:opd x=some rx){agg:Bool}{n:Nat}(ha:nM P t=some agg)(hn:agg=true->dn P t=some n){K:St->Prop}(h:dA (.lde agg n) [s.ev rx] λr=>K (s.put o.dst r)):OpS P o s K:=by
 refine ir ho hx ha hn ?_;unfold dA at h;generalize s.ev rx=v at h;cases v<;>first|(simp[mI.val] at h;done)|skip
 rename_i cs;simp only[mI.val,K5] at h;simp only[St.rd,bM]
 cases agg with
 |true=>
  simp only at h|-
  cases hb:Nat.ble n cs.length with
  |true=>rw[hb] at h;exact ae.2 ⟨rfl,h⟩
  |false=>rw[hb] at h;exact h.elim
 |false=>
  cases cs with
  |nil=>exact h.elim
  |cons c r=>exact h
theorem Fw{v:Value}(h:dF v=some (.sl .full [])):v=.slice none 0 0:=by
 cases v<;>first|(simp[dF,oH] at h;done)|skip
 case pointer a=>cases a<;>simp[dF,oH] at h
 case map a=>cases a<;>simp[dF,oH] at h
 case slice a n k=>
  cases a with
  |some a=>simp[dF,oH] at h
  |none=>
   match n,k,h with
   |0,0,_=>rfl
   |0,k+1,h=>simp[dF,oH] at h
   |n+1,k,h=>simp[dF,oH] at h
theorem Ag{y:Operand}(h:opd y=some (.c (.sl .full []))):y=.const (.slice none 0 0):=by
 cases y with
 |tmp t=>cases h
 |const v=>
  simp only[opd] at h
  cases hv:dF v with
  |none=>rw[hv] at h;cases h
  |some x=>
   rw[hv] at h;have hx:x=.sl .full []:=by simpa using h
   subst hx
   rw[Fw hv]
 |func f=>cases h
 |global g=>cases h
theorem tX{s:St}{o:Oper}{neg:Bool}{t u e:Nat}{x y:Operand}(ho:o.op=.binOp (match neg with|true=>.neq|false=>.eql) t x y u){rx:Opd}(hx:opd x=some rx)(hy:y=.const (.slice none 0 0))(ht:P.underlying t=some (.slice e)){K:St->Prop}{oc:Cap}{l:List AV}(hxe:s.ev rx=.sl oc l)
  (h:(l≠[]->K (s.put o.dst (.bool (cZ neg false))))/\(l=[]->∀b,K (s.put o.dst (.bool (cZ neg b))))):OpS P o s K:=by
 have hd:∀c,o.op≠.defer c:=λc e=>by rw[ho] at e;cases e
 refine OpS.ex (ι:=Bool) (λb=>l≠[]->b=false) (λb=>.bool (cZ neg b)) (λ_=>s) hd (λb hb=>?_) λE G a w hs=>?_
 .by_cases hl:l=[]
  .exact h.2 hl b
  .rw [hb hl];exact h.1 hl
 .have hxv:=hs.ev hx;rw[hxe] at hxv;obtain⟨ad,k,B,off,sz,h1,_,_,_,_,h2,_⟩:=hxv.ez;refine⟨ad.isNone,.bool (cZ neg ad.isNone),G,w,λhl=>by rw[h2 hl];rfl,?_,hs,.flat (.bool _)⟩
  subst hy;have h1':a.eval x=.slice ad l.length k:=h1;rw[eY P _ o ho w (by rw[h1'];simp) (by rw[h1'];simp),h1']
  cases neg with
  |false=>
   have h3:=Lib.run_eql_slice_nil (P:=P) w t e ad l.length k 0 0 ht
   simp only[Act.eval,h3,Xh,cZ]
  |true=>
   have h3:=run_neq_slice_nil_any (P:=P) w t e ad l.length k 0 0 ht;simp only[Act.eval,h3,Xh,cZ]
def sq(zx:AV)(s:St)(m k:AV)(K:AV->St->Prop):Prop:=
 match m,k with
 |.mpt b,.int .i64 n=>match s.bs[b]? with
  |some (.mp l)=>(lP l n=none/\dB zx=true)/\K (.tup [zx,.int .i64 l.length]) ⟨s.env,s.bs.set b (.mp (l++[(n,zx)])),s.lo⟩
  |_=>False
 |_,_=>False
theorem Ap:∀{l:List (Int×AV)} {n:Int},lP l n=none->∀y,fw l n y=l++[(n,y)]
 |[],_,_,_=>rfl
 |(k,x)::l,n,h,y=>by
  simp only[lP] at h;split at h
  .cases h
  .rename_i hk;simp only[fw,if_neg hk,Ap h y,Ze]
theorem CW{s:St}{o:Oper}{t:TypeId}{m k:Operand}(ho:o.op=.mapEntry t m k){rm rk:Opd}(hm:opd m=some rm)(hk:opd k=some rk){kt et:TypeId}{ik:IntKind}(ht:P.underlying t=some (.map kt et))(hkt:P.underlying kt=some (.int ik))
  {i:TypeInfo} {zv:Value} {z:AV} (hi:P.info? et=some i) (hz:i.zero=some zv) (hzx:dF zv=some z) {K:St->Prop} (h:sq z s (s.ev rm) (s.ev rk) λr s'=>K (s'.put o.dst r)):OpS P o s K:=by
 have hd:∀c,o.op≠.defer c:=λc e=>by rw[ho] at e;cases e
 unfold sq at h;split at h
 .rename_i b n hme hke;split at h
  .rename_i l hb;obtain⟨⟨hn,hok⟩,hK⟩:=h;refine OpS.ex (ι:=Unit) (λ_=>True) (λ_=>.tup [z,.int .i64 l.length]) (λ_=>⟨s.env,s.bs.set b (.mp (l++[(n,z)])),s.lo⟩) hd (λ_ _=>hK) λE G a w hs=>?_;have hmv:=hs.ev hm;rw[hme] at hmv;have hkv:=hs.ev hk;rw[hke] at hkv;obtain⟨h1,_,_⟩:=hs.DH hb;have e1:=hmv.gh.1;have e2:=hkv.aC
   have hq:iU l n 0=none:=by
    have:=q9 l n 0;rw[hn] at this;exact this
   have hf:=dX hkt n l w;rw[hq] at hf;have hzv:zv=vOf z:=nZ hok (RV.flat (M:=G.M) (σ:=G.σ) (n:=0) (gq hzx));obtain⟨h2,h3⟩:=q8 n z l 0 0 hq;rw[Ap hn] at h2 h3
   have he:(dm l).push {key:=.int .i64 n,val:=zv,born:=l.length}=dm (l++[(n,z)]):=by
    simp only[dm,h2,YG,hzv];simp
   have hzr:∀w:World,(zeroValue et).run P w=.ok zv w:=λw=>by simp[zeroValue,typeInfo,hi,hz]
   refine⟨(),.tuple #[zv,.int .i64 l.length],_,_,trivial,?_,hs.B8 hb (l++[(n,z)]),?_⟩
   .unfold execOp;simp only[ho,Instr.mapEntry,e1,e2,Xi,run_underlying ht,Xh,bl h1 rfl,a7 hkt,hf,hzr,cn h1,he,h3,Xj,goInt]
   .refine .tup _ [zv,.int .i64 l.length] rfl λj hj u hu=>?_
    match j,hj with
    |0,_=>simp at hu;subst hu;exact .flat (gq hzx)
    |1,_=>simp at hu;subst hu;exact .flat (.int _ _)
  .exact h.elim
 .exact h.elim
def r6(s:St)(m j v:AV)(K:St->Prop):Prop:=
 match m,j with
 |.mpt b,.int .i64 j=>match s.bs[b]? with
  |some (.mp l)=>match l[j.toNat]? with
   |some (k,_)=>(0<=j/\dB v=true)/\K ⟨s.env,s.bs.set b (.mp (l.set j.toNat (k,v))),s.lo⟩
   |none=>False
  |_=>False
 |_,_=>False
theorem xx:∀(l:List (Int×AV)) (i j:Nat),j<l.length->(cP i l).findIdx? (λe=>(e.born:Int)==((i+j:Nat):Int))=some j
 |[],i,j,h=>by cases h
 |(k,x)::l,i,j,h=>by
  simp only[cP,List.findIdx?_cons]
  cases j with
  |zero=>simp
  |succ j=>
   have h1:((i:Int)==((i+(j+1):Nat):Int))=false:=by
    rw[beq_eq_false_iff_ne];omega
   have h2:=xx l (i+1) j (by simpa using h)
   rw[show i+1+j=i+(j+1) by omega] at h2
   rw[h1];simp only[YZ,if_false,h2,ZM]
theorem Ax(y:AV):∀(l:List (Int×AV)) (i j:Nat) (k:Int) (x:AV),l[j]? =some (k,x)->cP i (l.set j (k,y))=(cP i l).modify j λe=>{e with val:=vOf y}
 |[],i,j,k,x,h=>by simp at h
 |(k0,x0)::l,i,j,k,x,h=>by
  cases j with
  |zero=>simp at h;obtain⟨rfl,rfl⟩:=h;simp[cP]
  |succ j=>
   have:=Ax y l (i+1) j k x (by simpa using h)
   simp only[List.set_cons_succ,cP,this,List.modify_succ_cons]
theorem B3{s:St}{o:Oper}{t:TypeId}{m j v:Operand}(ho:o.op=.entryStore t m j v)(hdn:o.dst=none){rm rj rv:Opd}(hm:opd m=some rm)(hj:opd j=some rj)(hv:opd v=some rv){K:St->Prop}
  (h:r6 s (s.ev rm) (s.ev rj) (s.ev rv) K):OpS P o s K:=by
 have hd:∀c,o.op≠.defer c:=λc e=>by rw[ho] at e;cases e
 unfold r6 at h;split at h
 .rename_i b q hme hje;split at h
  .rename_i l hb;split at h
   .rename_i k x hl;obtain⟨⟨h0,hok⟩,hK⟩:=h;obtain⟨q,rfl⟩:∃n:Nat,q=n:=⟨q.toNat,by omega⟩
    simp only[Ys] at hl hK;refine OpS.skip _ hd hdn hK λE G a w hs=>?_;have hmv:=hs.ev hm;rw[hme] at hmv;have hjv:=hs.ev hj;rw[hje] at hjv;have hvv:=nZ hok (hs.ev hv);obtain⟨h1,_,_⟩:=hs.DH hb;refine⟨G,_,?_,hs.B8 hb _⟩;have e1:=hmv.gh.1;have e2:=hjv.aC;have hlt:q<l.length:=(ZB.1 hl).1;have hf:=xx l 0 q hlt;rw[YG] at hf
    have he:(dm l).modify q (λe=>{e with val:=vOf (s.ev rv)})=dm (l.set q (k,s.ev rv)):=by
     simp only[dm,Ax (s.ev rv) l 0 q k x hl];apply Array.ext';simp
    have hf2:(dm l).findIdx? (λe=>(e.born:Int)==(q:Int))=some q:=by
     simp only[dm,List.findIdx?_toArray];exact hf
    unfold execOp;simp only[ho,Instr.entryStore,e1,e2,hvv,Xi,Xh,bl h1 rfl,asInt,asIntOf,Xj,hf2,cn h1,he,Zm]
   .exact h.elim
  .exact h.elim
 .exact h.elim
def skE:Nat->List (List AV×AV)->List MapEntry
 |_,[]=>[]
 |i,(k,x)::l=>{key:=.agg (k.map KR).toArray,val:=vOf x,born:=i}::skE (i+1) l
theorem Nl(k:List AV)(x:AV):∀(l:List (List AV×AV)) (i:Nat),skE i (l++[(k,x)])=skE i l++[{key:=.agg (k.map KR).toArray,val:=vOf x,born:=i+l.length}]
 |[],i=>rfl
 |(k',x')::l,i=>by
  show _::skE (i+1) (l++[(k,x)])=_::(skE (i+1) l++_);rw[Nl k x l (i+1),ZX,show i+1+l.length=i+(l.length+1) by omega]
def MN(ks:List FK)(cs:List AV):List (List AV×AV)->Option (Option AV)
 |[]=>some none
 |(k,x)::l=>match mC ks cs k with
  |some true=>some (some x)
  |some false=>MN ks cs l
  |none=>none
def OA(ks:List FK)(cs:List AV):Prop:=dB (.agg cs)=true/\cs.length=ks.length
def Oq(l:List (List AV×AV)):Prop:=∀e∈l,dB (.agg e.1)=true/\dB e.2=true
theorem NL:∀(fs:List Field) (k:Nat) (ks:List FK),A2 P k fs=some ks->ks.length=fs.length
 |[],k,ks,h=>by simp only[A2,ZN] at h;subst h;rfl
 |f::fs,k,ks,h=>by
  simp only[A2] at h;split at h
  .rename_i h4;cases h;rw[ZX,ZX,NL fs (k+1) _ h4]
  .cases h
theorem Of{cs:List AV}(h:dB (.agg cs)=true):∀j (hj:j<cs.length) v,(cs.map KR).toArray[j]? =some v->RV (λ_ _=>none) (λ_=>0) 0 cs[j] v:=by
 obtain⟨us,hu,_,_,hr⟩:=(FT (M:=λ_ _=>none) (σ:=λ_=>0) (n:=0) h).eA;intro j hj v hv
 have e:(cs.map KR).toArray=us.toArray:=by
  have:=hu;simp only[vOf,Value.agg.injEq] at this;exact this
 rw[e] at hv;exact hr j hj v (by simpa using hv)
theorem Oi{t:TypeId}{ks:List FK}(hk:xQ P t=some ks){cs ds:List AV}(ha:dB (.agg cs)=true)(hb:dB (.agg ds)=true){b:Bool}(he:mC ks cs ds=some b)(w:World):
  (Op.equal t (.agg (cs.map KR).toArray) (.agg (ds.map KR).toArray)).run P w=.ok b w:=by
 unfold xQ at hk;split at hk
 .rename_i fs ht;split at hk
  .rename_i hst hg;have hfo:P.fieldsOf t=fs:=by simp[Program.fieldsOf,ht]
   have:=run_equalIn_struct (P:=P) w 9999 t (cs.map KR).toArray (ds.map KR).toArray (by rw[hfo];exact ht) hst
   unfold Op.equal;rw[show Op.maxDepth=9999+1 from rfl,this,hfo];exact qn (d:=9998) w fs.toList 0 ks cs ds b hk he (λj hj v hv=>Of ha j hj v (by simpa using hv)) (λj hj v hv=>Of hb j hj v (by simpa using hv)) (by simp) (by simp)
  .cases hk
 .cases hk
theorem MO(em:Bool)(d:Nat)(w:World){xs:Array Value}:∀(fs:List Field) (k:Nat) (ks:List FK),A2 P k fs=some ks->k+fs.length<=xs.size->
  (forIn fs PUnit.unit fun f _ => (do if f.name ≠ "_" then Instr.checkKey em (d + 1) f.type (← part f.type xs f.offset)
                                      pure (ForInStep.yield PUnit.unit):Sem (ForInStep PUnit))).run P w=.ok PUnit.unit w
 |[],k,ks,h,hl=>by simp
 |f::fs,k,ks,h,hl=>by
  simp only[A2] at h;split at h
  ·rename_i x xs' h1 h2 h3 h4; cases h; have h2 := Nat.eq_of_beq_eq_true h2; have hn : f.name ≠ "_" := by simpa using h1
   rw[ZX] at hl;obtain⟨u,hu⟩:∃u,xs[k]? =some u:=⟨_,Zi (by omega)⟩
   have hp:P.plainKey f.type=true:=by
    unfold K8 at h3;split at h3<;>first|(rename_i hu;simp[Program.plainKey,hu];done)|cases h3
   have p1:=run_part_plain (P:=P) w hp (xs:=xs) (off:=f.offset) (v:=u) (by rw[h2];exact hu)
   have p2:(Instr.checkKey em (d+1) f.type u).run P w=.ok () w:=by
    unfold Instr.checkKey;unfold K8 at h3;split at h3<;>first|(rename_i hu;simp only[Xi,run_underlying hu,Xh];cases u<;>rfl)|cases h3
   have ih:=MO em d w (xs:=xs) fs (k+1) xs' h4 (by omega)
   simp only[List.forIn_cons,Xi,hn,ne_eq,not_false_eq_true,if_true,Xh,p1,p2,Xj];simpa using ih
  .cases h
theorem L8{t:TypeId}{ks:List FK}(hk:xQ P t=some ks){cs:List AV}(ha:OA ks cs)(em:Bool)(w:World):(Instr.checkKey em 10000 t (.agg (cs.map KR).toArray)).run P w=.ok () w:=by
 unfold xQ at hk;split at hk
 .rename_i fs ht;split at hk
  .show (Instr.checkKey em (9999+1) t _).run P w=.ok () w;unfold Instr.checkKey;simp only[Xi,run_underlying ht,Xh];rw[<-Array.forIn_toList];have:=MO (P:=P) em 9998 w (xs:=(cs.map KR).toArray) fs.toList 0 ks hk (by rw[<-NL _ _ _ hk,<-ha.2];simp)
   simp at this;simp[this]
  .cases hk
 .cases hk
theorem MZ{t:TypeId}{ks:List FK}(hk:xQ P t=some ks){cs:List AV}(ha:OA ks cs)(w:World):∀(l:List (List AV×AV)) (i j:Nat) (r:Option AV),Oq l->MN ks cs l=some r->∃q,(Instr.findAsking t (.agg (cs.map KR).toArray) (skE i l) j).run P w=.ok q w/\q.map (·.2)=r.map vOf
 |[],i,j,r,_,h=>by
  cases h
  exact⟨none,by simp[skE,Instr.findAsking],rfl⟩
 |(k,x)::l,i,j,r,hl,h=>by
  have hkx:=(hl _ (ZV ..)).1;simp only[MN] at h;split at h
  .rename_i he;cases h;refine⟨some (j,vOf x),?_,rfl⟩;simp only[skE,Instr.findAsking,Xi,Oi hk ha.1 hkx he w,Xh,if_true,Xj]
  .rename_i he;obtain⟨q,h1,h2⟩:=MZ hk ha w l (i+1) (j+1) r (λe he=>hl e (ZQ _ he)) h;refine⟨q,?_,h2⟩;simp only[skE,Instr.findAsking,Xi,Oi hk ha.1 hkx he w,Xh,YZ,if_false,h1]
  .cases h
theorem Mi{t:TypeId}{ks:List FK}(hk:xQ P t=some ks){cs:List AV}(ha:OA ks cs)(w:World){l:List (List AV×AV)}{r:Option AV}(hl:Oq l)(h:MN ks cs l=some r):∃q,(Instr.findKey t (.agg (cs.map KR).toArray) (skE 0 l).toArray.toList).run P w=.ok q w/\q.map (·.2)=r.map vOf:=by
 obtain⟨q,h1,h2⟩:=MZ (P:=P) hk ha w l 0 0 r hl h;refine⟨q,?_,h2⟩
 rw[run_findKey_eq w (by
  unfold xQ at hk;split at hk
  .rename_i fs ht;rw[ht]
  .cases hk)]
 exact h1
def Oh(ks:List FK)(s:St)(m k v:AV)(K:St->Prop):Prop:=
 ∃b cs l x,m=.mpt b/\k=.agg cs/\s.bs[b]? =some x/\x.lb? =some (mLB (skE 0 l) l.length)/\x.cs? =none/\OA ks cs/\Oq l/\MN ks cs l=some none/\dB v=true/\K ⟨s.env,s.bs.set b (.loop (mLB (skE 0 (l++[(cs,v)])) (l.length+1))),s.lo⟩
def OE(ks:List FK)(ok:Bool)(z:AV)(s:St)(m k:AV)(K:AV->Prop):Prop:=
 ∃b cs l x r,m=.mpt b/\k=.agg cs/\s.bs[b]? =some x/\x.lb? =some (mLB (skE 0 l) l.length)/\OA ks cs/\Oq l/\MN ks cs l=some r/\(∀y,r=some y->K (okR ok y true))/\(r=none->K (okR ok z false))
theorem N8{s:St}{o:Oper}{t:TypeId}{m k v:Operand}(ho:o.op=.mapUpdate t m k v)(hdn:o.dst=none){rm rk rv:Opd}(hm:opd m=some rm)(hk:opd k=some rk)(hv:opd v=some rv){kt et:TypeId}{ks:List FK}(ht:P.underlying t=some (.map kt et))(hkt:xQ P kt=some ks){K:St->Prop}
  (h:Oh ks s (s.ev rm) (s.ev rk) (s.ev rv) K):OpS P o s K:=by
 have hd:∀c,o.op≠.defer c:=λc e=>by rw[ho] at e;cases e
 obtain⟨b,cs,l,x,hme,hke,hb,hx,hxc,hok,hl,hf,hvo,hK⟩:=h;refine OpS.skip _ hd hdn hK λE G a w hs=>?_;have hmv:=hs.ev hm;rw[hme] at hmv;have hkv:=hs.ev hk;rw[hke] at hkv;have hkv:=nZ hok.1 hkv;have hvv:=nZ hvo (hs.ev hv);obtain⟨h1,_,_⟩:=hs.ui hb hx;refine⟨G,_,?_,hs.yu hb hx hxc rfl rfl⟩;have e1:=hmv.gh.1;obtain⟨q,h2,h3⟩:=Mi (P:=P) hkt hok w hl hf
 cases q with
 |some q=>cases h3
 |none=>
  have he:(skE 0 l).toArray.push {key:=.agg (cs.map KR).toArray,val:=vOf (s.ev rv),born:=l.length}=(skE 0 (l++[(cs,s.ev rv)])).toArray:=by
   rw[Nl,YG];simp
  simp only[vOf] at hkv;unfold execOp;simp only[ho,Instr.mapUpdate,e1,hkv,hvv,Xi,run_underlying ht,Xh,bl h1 rfl,L8 hkt hok,h2,cn h1,he];rfl
theorem Oe{s:St}{o:Oper}{t:TypeId}{m k:Operand}{ok:Bool}(ho:o.op=.lookup t m k ok){rm rk:Opd}(hm:opd m=some rm)(hk:opd k=some rk){kt et:TypeId}{ks:List FK}(ht:P.underlying t=some (.map kt et))(hkt:xQ P kt=some ks)
  {i:TypeInfo} {zv:Value} {z:AV} (hi:P.info? et=some i) (hz:i.zero=some zv) (hzx:dF zv=some z) {K:St->Prop} (h:OE ks ok z s (s.ev rm) (s.ev rk) λr=>K (s.put o.dst r)):OpS P o s K:=by
 have hd:∀c,o.op≠.defer c:=λc e=>by rw[ho] at e;cases e
 have tup:∀(M:Hp) (σ:Nat->Nat) (nb:Nat) (x:AV) (v:Value) (b:Bool),RV M σ nb x v->RV M σ nb (.tup [x,.bool b]) (.tuple #[v,.bool b]):=λM σ nb x v b hx=>by
  refine .tup _ [v,.bool b] rfl λj hj u hu=>?_
  match j,hj with
  |0,_=>simp at hu;subst hu;exact hx
  |1,_=>simp at hu;subst hu;exact .flat (.bool b)
 have fin:∀(x:AV) (b:Bool),(∃v:Value,(∀(M:Hp) (σ:Nat->Nat) (nb:Nat),RV M σ nb x v)/\∀E G a w,RS E G s a w->(Instr.lookup t (a.eval m) (a.eval k) ok).run P w=.ok (if ok then .tuple #[v,.bool b] else v) w)->K (s.put o.dst (okR ok x b))->OpS P o s K:=λx b ⟨v,hv,hrun⟩ hK=>by
  cases ok with
  |true=>
   refine OpS.pure _ hd hK λE G a w hs=>⟨_,?_,tup _ _ _ _ _ _ (hv _ _ _)⟩;unfold execOp;simp only[ho,hrun E G a w hs,Xi,Xh,if_true]
   rfl
  |false=>
   refine OpS.pure _ hd hK λE G a w hs=>⟨v,?_,hv _ _ _⟩;unfold execOp;simp only[ho,hrun E G a w hs,Xi,Xh];rfl
 have hzv:∀(M:Hp) (σ:Nat->Nat) (nb:Nat),RV M σ nb z zv:=λM σ nb=>.flat (gq hzx);have hzr:∀w:World,(zeroValue et).run P w=.ok zv w:=λw=>by simp[zeroValue,typeInfo,hi,hz]
 obtain⟨b,cs,l,x,r,hme,hke,hb,hx,hok,hl,hf,hK1,hK2⟩:=h
 have hrun:∀E G a w,RS E G s a w->a.eval m=.map (some (G.σ b))/\a.eval k=.agg (cs.map KR).toArray/\w.heap[G.σ b]? =some (.map (skE 0 l).toArray l.length):=λE G a w hs=>by
  have hmv:=hs.ev hm;rw[hme] at hmv;have hkv:=hs.ev hk;rw[hke] at hkv;exact⟨hmv.gh.1,nZ hok.1 hkv,(hs.ui hb hx).1⟩
 have hyo:∀y,r=some y->dB y=true:=λy hy=>by
  subst hy;clear hK1 hK2 hrun hx
  induction l with
  |nil=>cases hf
  |cons e l ih=>
   obtain⟨k',x'⟩:=e;simp only[MN] at hf;split at hf
   .cases hf;exact(hl _ (ZV ..)).2
   .exact ih (λe he=>hl e (ZQ _ he)) hf
   .cases hf
 cases r with
 |some y=>
  refine fin y true ⟨vOf y,λM σ nb=>FT (hyo y rfl),λE G a w hs=>?_⟩ (hK1 y rfl);obtain⟨e1,e2,e3⟩:=hrun E G a w hs;obtain⟨q,h2,h3⟩:=Mi (P:=P) hkt hok w hl hf
  cases q with
  |none=>cases h3
  |some q=>
   obtain⟨i',u⟩:=q;simp only[ZM,ZN] at h3;subst h3
   simp only[Instr.lookup,e1,e2,Xi,run_underlying ht,Xh,bl e3 rfl,Xj,L8 hkt hok,h2]
 |none=>
  refine fin z false ⟨zv,hzv,λE G a w hs=>?_⟩ (hK2 rfl);obtain⟨e1,e2,e3⟩:=hrun E G a w hs;obtain⟨q,h2,h3⟩:=Mi (P:=P) hkt hok w hl hf
  cases q with
  |some q=>cases h3
  |none=>simp only[Instr.lookup,e1,e2,Xi,run_underlying ht,Xh,bl e3 rfl,Xj,L8 hkt hok,h2,hzr]
inductive Eff where
 |mG (z:Nat)
 |vv (z:Nat)
 |slN
 |mkM
 |vV
 |getM (ok:Bool) (zx:AV)
 |mkB (z:Nat) (zx:AV)
 |Cv (neg:Bool)
 |Hy (zx:AV)
 |F4
 |bsR (z:Nat)
 |OU (ks:List FK)
 |OF (ks:List FK) (ok:Bool) (zx:AV)
deriving Inhabited
def IV(s:St)(d:Option Nat)(K:St->Prop):Prop:=K (St.put ⟨s.env,s.bs++[.mp []],s.lo⟩ d (.mpt s.bs.length))
def B7(x n:AV)(s:St)(d:Option Nat)(K:St->Prop):Prop:=
 match x,n with
 |.sl .full [],.int _ n=>n=0/\K (s.put d (.sl .full []))
 |_,_=>False
def rN(e:Eff)(vals:List AV)(s:St)(d:Option Nat)(K:St->Prop):Prop:=
 match e,vals with
 |.mG z,[x,y]=>mG z s x y λr s'=>K (s'.put d r)
 |.vv z,[x,y]=>vv z s x y λr s'=>K (s'.put d r)
 |.slN,[x,n]=>B7 x n s d K
 |.mkM,[]=>IV s d K
 |.mkM,[.int _ _]=>IV s d K
 |.vV,[m,k,v]=>th s m k v K
 |.getM ok zx,[m,k]=>uI ok zx s m k λr=>K (s.put d r)
 |.mkB z zx,[l,c]=>mkB z zx s l c λr s'=>K (s'.put d r)
 |.Hy zx,[m,k]=>sq zx s m k λr s'=>K (s'.put d r)
 |.F4,[m,j,v]=>r6 s m j v K
 |.bsR z,vals=>Jb z vals s λr s'=>K (s'.put d r)
 |.Cv neg,[.sl _ l]=>(l≠[]->K (s.put d (.bool (cZ neg false))))/\(l=[]->∀b,K (s.put d (.bool (cZ neg b))))
 |.OU ks,[m,k,v]=>Oh ks s m k v K
 |.OF ks ok zx,[m,k]=>OE ks ok zx s m k λr=>K (s.put d r)
 |_,_=>False
theorem rM{z:Nat}{bs:List Box}{y:AV}{K K':Nat->List AV->Prop}(hk:∀n ys,K n ys->K' n ys)(h:wD z bs y K):wD z bs y K':=by
 obtain⟨n,ys,h1,h2⟩:=DZ h;unfold wD at h1|-;split at h1
 .obtain ⟨h3,rfl,rfl⟩:=h1;exact⟨h3,hk _ _ h2⟩
 .split at h1
  .obtain ⟨h3,rfl,rfl⟩:=h1;exact⟨h3,hk _ _ h2⟩
  .exact h1.elim
 .exact h1.elim
theorem gz{bs:List Box}{x:AV}{K K':Nat->Nat->List AV->Option Nat->Prop}(hk:∀m k cs ob,K m k cs ob->K' m k cs ob)(h:qx bs x K):qx bs x K':=by
 unfold qx at h|-;split at h
 .exact hk _ _ _ _ h
 .split at h
  .exact hk _ _ _ _ h
  .exact h
 .exact h
theorem Fe{e:Eff}{vals:List AV}{s:St}{d:Option Nat}{K K':St->Prop}(hk:∀s,K s->K' s)(h:rN e vals s d K):rN e vals s d K':=by
 unfold rN at h|-;split at h
 .exact gz (λm k cs ob h=>rM (λn ys h=>⟨h.1,λk' hk'=>hk _ (h.2 k' hk')⟩) h) h
 .unfold vv at h|-;split at h
  .exact gz (λm k cs ob h=>⟨h.1,λk' hk'=>hk _ (h.2 k' hk')⟩) h
  .exact h
 .unfold B7 at h|-;split at h
  .exact ⟨h.1,hk _ h.2⟩
  .exact h
 .exact hk _ h
 .exact hk _ h
 .unfold th at h|-;split at h
  .split at h
   .exact ⟨h.1,hk _ h.2⟩
   .exact ⟨h.1,hk _ h.2⟩
   .exact h
  .exact h
 .unfold uI at h|-;split at h
  .split at h
   .split at h
    .exact ⟨h.1,hk _ h.2⟩
    .exact hk _ h
   .split at h
    .exact ⟨h.1,hk _ h.2⟩
    .exact hk _ h
   .exact h
  .exact hk _ h
  .exact h
 .unfold mkB at h|-;split at h
  .exact ⟨h.1,hk _ h.2⟩
  .exact h
 .unfold sq at h|-;split at h
  .split at h
   .exact ⟨h.1,hk _ h.2⟩
   .exact h
  .exact h
 .unfold r6 at h|-;split at h
  .split at h
   .split at h
    .exact ⟨h.1,hk _ h.2⟩
    .exact h
   .exact h
  .exact h
 .exact ⟨h.1,hk _ h.2⟩
 .exact ⟨λe=>hk _ (h.1 e),λe b=>hk _ (h.2 e b)⟩
 .obtain ⟨b,cs,l,x,h1,h2,h3,h4,h5,h6,h7,h8,h9,h⟩:=h;exact⟨b,cs,l,x,h1,h2,h3,h4,h5,h6,h7,h8,h9,hk _ h⟩
 .obtain ⟨b,cs,l,x,r,h1,h2,h3,h4,h5,h6,h7,h8,h9⟩:=h;exact⟨b,cs,l,x,r,h1,h2,h3,h4,h5,h6,h7,λy e=>hk _ (h8 y e),λe=>hk _ (h9 e)⟩
 .exact h
end
end Go.AM
