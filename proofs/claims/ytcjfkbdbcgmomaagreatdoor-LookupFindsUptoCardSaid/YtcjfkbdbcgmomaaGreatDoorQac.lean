/-
  By an AI agent.
-/
import Derived.Test.YtcjfkbdbcgmomaaGreatDoorQab
set_option linter.unusedSimpArgs false
set_option linter.unusedVariables false
namespace Go.AM
open Go.CK Go.RowKit
theorem bS(B off n:Nat):(⟨B,off,none⟩:Addr).add n=⟨B,off+n,none⟩:=by
 unfold Addr.add;split<;>simp_all
def OY:TypeDesc->Bool
 |.struct _|.array _ _=>true
 |_=>false
def ba:AV->Bool
 |.top|.tup _=>false
 |_=>true
section
variable{E:Entry}{G:Gh}{s:St}{a:Act}{w:World}{P:Program}{M:Hp}{σ:Nat->Nat}{n:Nat}
theorem FV.one{x:AV}{v:Value}(h:FV M x v)(a:ba x=true)(b:x.isAgg=false):v.oneCell'=true:=by
 cases h<;>first|rfl|(simp[ba] at a;done)|(simp[AV.isAgg] at b;done)
theorem RV.one{x:AV}{v:Value}(h:RV M σ n x v)(a:ba x=true)(b:x.isAgg=false):v.oneCell'=true:=by
 cases h with
 |flat h=>exact h.one a b
 |agg=>simp[AV.isAgg] at b
 |tup=>simp[ba] at a
 |_=>rfl
theorem FV.scalar{x:AV}{v:Value}(h:FV M x v)(a:ba x=true)(b:x.isAgg=false):v.cells=#[v]:=by
 cases h<;>first|rfl|(simp[ba] at a;done)|(simp[AV.isAgg] at b;done)
theorem RV.scalar{x:AV}{v:Value}(h:RV M σ n x v)(a:ba x=true)(b:x.isAgg=false):v.cells=#[v]:=by
 cases h with
 |flat h=>exact h.scalar a b
 |agg=>simp[AV.isAgg] at b
 |tup=>simp[ba] at a
 |_=>rfl
theorem RV.cells{x:AV}{v:Value}(h:RV M σ n x v)(e:ba x=true):
  v.cells.toList.length=x.cells.length/\(∀u∈v.cells.toList,u.oneCell'=true)/\∀j (a:j<x.cells.length) u,v.cells.toList[j]? =some u->RV M σ n (x.cells[j]) u:=by
 cases b:x.isAgg with
 |false=>
  have c:x.cells=[x]:=by cases x<;>first|rfl|(simp[AV.isAgg] at b)
  rw[h.scalar e b];have d:=h.one e b;refine⟨by rw[c];rfl,λu hu=>by simp at hu;rw[hu];exact d,λj a u hu=>?_⟩
  rw[c] at a;obtain rfl:j=0:=by simpa using a
  simp at hu;subst hu
  simp only[c,ZQ];exact h
 |true=>
  cases x with
  |agg cs=>
   obtain⟨vs,rfl,g,d,f⟩:=h.eD
   exact⟨by simpa[Value.cells,AV.cells] using g,by simpa[Value.cells] using d,λj a u hu=>f j a u (by simpa[Value.cells] using hu)⟩
  |_=>simp[AV.isAgg] at b
def St.rd(s:St):AV->Option (List AV)
 |.ept cs=>some cs
 |.ptr b off=>match aa s.bs b with
  |some cs=>some ((cs.drop off).map AV.aI)
  |none=>none
 |.elp b i z off=>match aa s.bs b with
  |some cs=>some ((cs.drop (i*z+off)).map AV.aI)
  |none=>none
 |_=>none
theorem RS.wq(h:RS E G s a w){b:Nat}{cs:List AV}(hb:aa s.bs b=some cs)(j:Nat)(g:j<cs.length):
  ∃u,w.cell? ⟨G.σ b,j,none⟩=some u/\u.oneCell'=true/\RV G.M G.σ s.bs.length (cs[j]).aI u:=by
 obtain⟨vs,T,i,k⟩:=h.box b cs hb
 have e:w.cell? ⟨G.σ b,j,none⟩=some (vs[j]'(by omega)):=by
  simp only[World.cell?,i];simp[show j<vs.size by omega]
 have c:s.at (.bx b j)=some cs[j]:=by simp[St.at,hb,g]
 have d:=h.val (.bx b j) _ c;have f:=h.one b j _ c;simp only[aw,e,ZS] at d f;exact⟨_,e,f,d⟩
theorem RS.rd(h:RS E G s a w){x:AV}{v:Value}(k:RV G.M G.σ s.bs.length x v){cs:List AV}(hr:s.rd x=some cs):
  ∃B off,v=.pointer (some ⟨B,off,none⟩)/\∀j (d:j<cs.length),∃u,w.cell? ⟨B,off+j,none⟩=some u/\u.oneCell'=true/\RV G.M G.σ s.bs.length cs[j] u:=by
 cases x<;>first|(cases hr;done)|skip
 case ept ds=>
  cases hr;obtain⟨B,off,rfl,l⟩:=k.qH;refine⟨B,off,rfl,λj d=>?_⟩;obtain⟨u,g,f,e⟩:=l j d;exact⟨u,h.ok _ _ _ g,f,.flat e⟩
 case ptr b off=>
  simp only[St.rd] at hr;obtain⟨rfl,hb⟩:=k.hR
  cases c:aa s.bs b with
  |none=>rw[c] at hr;cases hr
  |some ds=>
   rw[c] at hr;cases hr;refine⟨G.σ b,off,rfl,λj d=>?_⟩;simp only[zF,Zd] at d;obtain⟨u,g,f,e⟩:=h.wq c (off+j) (by omega)
   refine⟨u,g,f,?_⟩;rw[ZD,Zz];exact e
 case elp b i z o=>
  simp only[St.rd] at hr;obtain⟨rfl,hb⟩:=k.qJ
  cases c:aa s.bs b with
  |none=>rw[c] at hr;cases hr
  |some ds=>
   rw[c] at hr;cases hr;refine⟨G.σ b,i*z+o,rfl,λj d=>?_⟩;simp only[zF,Zd] at d;obtain⟨u,g,f,e⟩:=h.wq c (i*z+o+j) (by omega)
   refine⟨u,g,f,?_⟩;rw[ZD,Zz];exact e
def ct(w:World)(B off n:Nat):List Value:=(List.range n).map λj=>(w.cell? ⟨B,off+j,none⟩).getD undef
theorem gj(P:Program)(w:World)(B off n:Nat)(h:∀j,j<n->∃u,w.cell? ⟨B,off+j,none⟩=some u):
  (loadCells ⟨B,off,none⟩ n).run P w=.ok (ct w B off n).toArray w:=by
 have:=run_loadCells_list (P:=P) w ⟨B,off,none⟩ (ct w B off n) (λj v a=>by
  rw[bS]
  have c:j<n:=by
   rcases zt j n with b|b
   .exact b
   .rw [zR (by simpa[ct] using b)] at a;cases a
  obtain⟨u,hu⟩:=h j c;simp[ct,c,hu] at a;rw[hu,a])
 simpa[ct] using this
theorem Ez{t:TypeId}{b:Bool}{d:TypeDesc}(hu:P.underlying t=some d)(a:OY d=b)(w:World):(isAgg t).run P w=.ok b w:=by
 unfold isAgg;rw[yW,run_underlying hu w];cases d<;>subst a<;>rfl
theorem aR{t:TypeId}{k:Nat}(h:(P.info? t).map (·.size)=some k)(w:World):(sizeOf t).run P w=.ok k w:=by
 cases a:P.info? t with
 |none=>rw[a] at h;cases h
 |some i=>
  rw[a] at h;simp only[zM,zN] at h;simp[sizeOf,typeInfo,a,h]
end
def od(P:Program)(t:TypeId):Option Bool:=(P.underlying t).map OY
def dB(P:Program)(t:TypeId):Option Nat:=(P.info? t).map (·.size)
theorem dy{P:Program}{t:TypeId}{b:Bool}(h:od P t=some b)(w:World):(isAgg t).run P w=.ok b w:=by
 unfold od at h
 cases hu:P.underlying t with
 |none=>rw[hu] at h;cases h
 |some d=>rw[hu] at h;simp only[zM,zN] at h;exact Ez hu h w
def bV(agg:Bool)(n:Nat)(cs:Option (List AV))(K:AV->Prop):Prop:=
 match cs with
 |some cs=>match agg with
  |true=>req (Nat.ble n cs.length) (K (.agg (cs.take n)))
  |false=>match cs with
   |c::_=>K c
   |[]=>False
 |none=>False
theorem iZ{P:Program}{s:St}{o:Oper}{t:TypeId}{x:Operand}(k:o.op=.load t x){rx:Opd}(p:opd x=some rx){agg:Bool}{n:Nat}(v:od P t=some agg)(y:agg=true->dB P t=some n){K:St->Prop}
  (h:bV agg n (s.rd (s.ev rx)) λr=>K (s.put o.dst r)):OpS P o s K:=by
 have q:∀c,o.op≠.defer c:=λc e=>by rw[k] at e;cases e
 unfold bV at h;split at h
 .rename_i cs d;split at h
  .obtain ⟨b,g⟩:=af.1 h;have hle:n<=cs.length:=zr b;refine OpS.pure _ q g λE G a w hs=>?_;obtain⟨B,off,i,f⟩:=hs.rd (hs.ev p) d;have hr:=gj P w B off n (λj l=>let ⟨u,h,_⟩:=f j (by omega);⟨u,h⟩)
   refine⟨.agg (ct w B off n).toArray,?_,?_⟩
   .unfold execOp;simp[k,Instr.loadAt,i,Instr.sureAddr,loadVar,dy v,aR (y rfl),hr]
   .refine .agg _ _ (by simp[ct];omega) (λu hu=>?_) (λj l u hu=>?_)
    .simp only[ct,zk,zd] at hu;obtain⟨j,l,rfl⟩:=hu;obtain⟨u,b,g,_⟩:=f j (by omega)
     rw[b];exact g
    .simp only[zn] at l;obtain⟨z,b,g,m⟩:=f j (by omega)
     simp[ct,show j<n by omega,b] at hu
     subst hu;rw[Zp];exact m
  .split at h
   .rename_i c rest;refine OpS.pure _ q h λE G a w hs=>?_;obtain⟨B,off,i,f⟩:=hs.rd (hs.ev p) d;obtain⟨u,b,_,m⟩:=f 0 (by simp)
    rw[Zf] at b;refine⟨u,?_,m⟩;unfold execOp;simp[k,Instr.loadAt,i,Instr.sureAddr,loadVar,dy v,b]
   .exact h.elim
 .exact h.elim
theorem RS.om{E:Entry}{G:Gh}{s:St}{a:Act}{w:World}(h:RS E G s a w)(bx:Box)(cs:List AV)(J:bx.lb? =none)(K:∀ds,bx.cs? =some ds->ds=cs)(vs:List Value)(T:TypeId)(S:cs.length<=vs.length)(F:∀v∈vs,v.oneCell'=true)
  (Q:∀j (m:j<cs.length) v,vs[j]? =some v->RV G.M G.σ s.bs.length cs[j] v):
  RS E {G with σ:=λb=>if b=s.bs.length then w.heap.size else G.σ b} ⟨s.env,s.bs++[bx],s.lo⟩ a (w.alloc (.cells vs.toArray T)):=by
 have q:RS E G s a (w.alloc (.cells vs.toArray T)):=h.grow (M':=G.M) ⟨rfl,rfl,rfl,by simp,Hp.le_refl _,λB hB _=>Below.heap_alloc _ _ _ hB,λ_ _ _ _=>rfl⟩ (Hp.ext h.ok ((Ext.refl w).alloc _))
 have r:∀b,b<s.bs.length->(λb=>if b=s.bs.length then w.heap.size else G.σ b) b=G.σ b:=λb hb=>by simp only;rw[if_neg (by omega)]
 have hlen:(s.bs++[bx]).length=s.bs.length+1:=by simp
 have u:(w.alloc (.cells vs.toArray T)).heap[w.heap.size]? =some (.cells vs.toArray T (0,0)):=heap_alloc_new w _
 have hold:∀b ds,aa (s.bs++[bx]) b=some ds->(b=s.bs.length/\ds=cs)\/(b<s.bs.length/\aa s.bs b=some ds):=λb ds hb=>by
  rw[aq] at hb
  by_cases e:b=s.bs.length
  .rw [if_pos e] at hb;exact .inl ⟨e,K _ hb⟩
  .rw [if_neg e] at hb;exact .inr ⟨aC hb,hb⟩
 have g:∀p x,(⟨s.env,s.bs++[bx],s.lo⟩:St).at p=some x->(∃j,p=.bx s.bs.length j/\cs[j]? =some x)\/(s.at p=some x/\∀j,p≠.bx s.bs.length j):=λp x hp=>by
  cases p with
  |sl t=>exact .inr ⟨hp,λj e=>by cases e⟩
  |bx b j=>
   simp only[St.at] at hp
   cases hb:aa (s.bs++[bx]) b with
   |none=>rw[hb] at hp;cases hp
   |some ds=>
    rw[hb] at hp;simp only[ZG] at hp;rcases hold b ds hb with ⟨rfl,rfl⟩|⟨n,f⟩
    .exact .inl ⟨j,rfl,hp⟩
    .refine .inr ⟨by simp only[St.at,f,ZG];exact hp,λP e=>?_⟩
     cases e;omega
 have c:∀p x,s.at p=some x->aw (λb=>if b=s.bs.length then w.heap.size else G.σ b) a (w.alloc (.cells vs.toArray T)) p=aw G.σ a (w.alloc (.cells vs.toArray T)) p:=λp x hp=>by
  cases p with
  |sl t=>rfl
  |bx b j=>
   simp only[St.at] at hp
   cases hb:aa s.bs b with
   |none=>rw[hb] at hp;cases hp
   |some ds=>simp only[aw];rw[if_neg (by have:=aC hb;omega)]
 have d:∀j x,cs[j]? =some x->∃v,vs[j]? =some v/\v.oneCell'=true/\RV G.M G.σ s.bs.length x v/\aw (λb=>if b=s.bs.length then w.heap.size else G.σ b) a (w.alloc (.cells vs.toArray T)) (.bx s.bs.length j)=v:=λj x m=>by
  have C:j<cs.length:=by
   rcases zt j cs.length with F|F
   .exact F
   .rw [zR F] at m;cases m
  have A:vs[j]? =some (vs[j]'(by omega)):=zA _
  rw[zA C] at m;cases m;refine⟨_,A,F _ (zc _),Q j C _ A,?_⟩;simp only[aw,if_true,World.cell?,u];simp[show j<vs.length by omega]
 refine⟨q.fr,q.ok,h.nt,λp x hp=>?_,λb j x hp=>?_,λb ds hb=>?_,λb ds hb=>?_,λb O ds H hb f e=>?_,λp z l hp=>?_,h.clinj,λp B hB b ds hb=>?_,q.cllt,h.lo,by rw[hlen];exact Nat.le_succ_of_le h.len,λb hb=>by simp only;rw[if_neg (by have:=h.len;omega)];exact h.sig b hb,q.sp.step (Hp.le_refl _) (λb hb=>by simp only;rw[if_neg (by omega)]) (λ_ _ k=>cu J k) (λ_ _ k _=>k) (λ_ _ _ _ p k=>⟨p,k⟩) (λ_ k=>k)⟩
 .simp only[hlen];rcases g p x hp with ⟨j,rfl,m⟩|⟨i,_⟩
  .obtain ⟨v,_,_,I,L⟩:=d j x m;rw[L,I.cr];exact I.mono (Hp.le_refl _) (Nat.le_succ _) r
  .rw [c p x i];exact(q.val p x i).mono (Hp.le_refl _) (Nat.le_succ _) r
 .rcases g _ x hp with ⟨P,e,m⟩|⟨i,_⟩
  .cases e;obtain⟨v,_,U,_,L⟩:=d j x m;rw[L];exact U
  .rw [c _ x i];exact q.one b j x i
 .rcases hold b ds hb with ⟨rfl,rfl⟩|⟨n,f⟩
  .exact ⟨vs.toArray,T,by simp only[if_true];exact u,by simpa using S⟩
  .simp only;rw[if_neg (by omega)];exact q.box b ds f
 .rcases hold b ds hb with ⟨rfl,rfl⟩|⟨n,f⟩
  .simp only[if_true];refine⟨λo=>?_,.inr h.fr.size⟩
   cases R:G.M w.heap.size o with
   |none=>rfl
   |some v=>exact absurd (Hp.lt h.ok R) (by omega)
  .simp only;rw[if_neg (by omega)];exact q.bmem b ds f
 .simp only at e;rcases hold b ds hb with ⟨rfl,rfl⟩|⟨n,D⟩<;>rcases hold O H f with ⟨rfl,rfl⟩|⟨N,y⟩
  .rfl
  .rw [if_pos rfl,if_neg (by omega)] at e
   exact absurd (h.blt y) (by omega)
  .rw [if_pos rfl,if_neg (by omega)] at e
   exact absurd (h.blt D) (by omega)
  .rw [if_neg (by omega),if_neg (by omega)] at e
   exact h.inj b O ds H D y e
 .rcases g _ _ hp with ⟨j,rfl,m⟩|⟨i,_⟩
  .obtain ⟨v,_,_,I,_⟩:=d j _ m;have:=I.cr;simp[AV.aI] at this
  .rw [c p _ i];exact q.own p z l i
 .rcases hold b ds hb with ⟨rfl,rfl⟩|⟨n,f⟩
  .simp only[if_true];have:=(h.cllt p B hB).1;omega
  .simp only;rw[if_neg (by omega)];exact h.clbox p B hB b ds f
theorem RS.NL{E:Entry}{G:Gh}{s:St}{a:Act}{w:World}(h:RS E G s a w)(cs:List AV)(vs:List Value)(T:TypeId)(f:vs.length=cs.length)(d:∀v∈vs,v.oneCell'=true)
  (c:∀j (g:j<cs.length) v,vs[j]? =some v->RV G.M G.σ s.bs.length cs[j] v):
  RS E {G with σ:=λb=>if b=s.bs.length then w.heap.size else G.σ b} ⟨s.env,s.bs++[.cells cs],s.lo⟩ a (w.alloc (.cells vs.toArray T)):=
 h.om (.cells cs) cs rfl (λds e=>by cases e;rfl) vs T (by omega) d c
def St.gh(s:St)(cs:List AV):St:=⟨s.env,s.bs++[.cells cs],s.lo⟩
def IN(s:St)(x:AV)(K:AV->St->Prop):Prop:=req (ba x) (K (.ptr s.bs.length 0) (s.gh x.cells))
theorem G8{P:Program}{s:St}{x:AV}(c:ba x=true){E:Entry}{G:Gh}{a:Act}{w:World}(hs:RS E G s a w){v:Value}(d:RV G.M G.σ s.bs.length x v)(t:TypeId):
  ∃G' w',(newVar t v).run P w=.ok ⟨w.heap.size,0,none⟩ w'/\RS E G' (s.gh x.cells) a w'/\RV G'.M G'.σ (s.gh x.cells).bs.length (.ptr s.bs.length 0) (.pointer (some ⟨w.heap.size,0,none⟩)):=by
 obtain⟨g,f,e⟩:=d.cells c;have:=hs.NL x.cells v.cells.toList t g f e;refine⟨_,_,?_,this,?_⟩
 .simp [newVar,newRow]
 .have:=RV.ptr (M:=G.M) (σ:=λb=>if b=s.bs.length then w.heap.size else G.σ b) (n:=(s.gh x.cells).bs.length) s.bs.length 0 (by simp[St.gh])
  simpa using this
theorem IM{P:Program}{s:St}{o:Oper}{t:TypeId}{x:Operand}(b:o.op=.box t x){rx:Opd}(f:opd x=some rx){K:St->Prop}
  (h:IN s (s.ev rx) λr d=>K (d.put o.dst r)):OpS P o s K:=by
 have g:∀c,o.op≠.defer c:=λc e=>by rw[b] at e;cases e
 obtain⟨m,l⟩:=af.1 h;refine OpS.val _ _ g l λE G a w hs=>?_;obtain⟨G',w',k,j,i⟩:=G8 (P:=P) m hs (hs.ev f) t;refine⟨_,G',w',?_,j,i⟩;unfold execOp;simp[b,Instr.box,k]
theorem D1{P:Program}{s:St}{o:Oper}{t:TypeId}(b:o.op=.alloc t){i:TypeInfo}{z:Value}{x:AV}(j:P.info? t=some i)(f:i.zero=some z)(g:cO z=some x){K:St->Prop}
  (h:IN s x λr d=>K (d.put o.dst r)):OpS P o s K:=by
 have k:∀c,o.op≠.defer c:=λc e=>by rw[b] at e;cases e
 obtain⟨q,p⟩:=af.1 h;refine OpS.val _ _ k p λE G a w hs=>?_;obtain⟨G',w',n,m,l⟩:=G8 (P:=P) q hs (.flat (ib g)) t;refine⟨_,G',w',?_,m,l⟩;unfold execOp;simp[b,Instr.alloc,zeroValue,typeInfo,j,f,n]
theorem RS.setCell{E:Entry}{G:Gh}{s:St}{a:Act}{w:World}(h:RS E G s a w){b j:Nat}{cs:List AV}(hb:aa s.bs b=some cs)(hj:j<cs.length){x:AV}{v:Value}(Q:RV G.M G.σ s.bs.length x v)(P:v.oneCell'=true):
  RS E G (s.aU b (cs.set j x)) a (w.setCell ⟨G.σ b,j,none⟩ v)/\w.frozen? ⟨G.σ b,j,none⟩=false/\∃u,w.cell? ⟨G.σ b,j,none⟩=some u:=by
 have Y:=h.blt hb;obtain⟨vs,T,O,hvl⟩:=h.box b cs hb;obtain⟨Z,D⟩:=h.bmem b cs hb;have r:s.at (.bx b j)=some cs[j]:=by simp[St.at,hb,hj]
 have F:s.aU b (cs.set j x)=s.upd (.bx b j) x:=by simp[St.upd,hb]
 have n:∃u,w.cell? ⟨G.σ b,j,none⟩=some u:=⟨vs[j]'(by omega),by simp only[World.cell?,O];simp[show j<vs.size by omega]⟩
 have c:∀k,k≠G.σ b->(w.setCell ⟨G.σ b,j,none⟩ v).heap[k]? =w.heap[k]?:=λk hk=>Below.heap_setCell _ _ _ _ hk
 have C:(w.setCell ⟨G.σ b,j,none⟩ v).heap[G.σ b]? =some (.cells (vs.setIfInBounds j v) T (0,0)):=by
  simp only[World.setCell,Array.getElem?_modify,if_true,O];rfl
 have m:(w.setCell ⟨G.σ b,j,none⟩ v).heap.size=w.heap.size:=by simp[World.setCell]
 have H:∀p B,G.cl p=some B->B≠G.σ b:=λp B hB e=>h.clbox p B hB b cs hb e.symm
 have g:∀p y,s.at p=some y->aw G.σ a (w.setCell ⟨G.σ b,j,none⟩ v) p=if p=.bx b j then v else aw G.σ a w p:=λp y hp=>by
  cases p with
  |sl t=>simp[aw]
  |bx f N=>
   simp only[St.at] at hp
   cases d:aa s.bs f with
   |none=>rw[d] at hp;cases hp
   |some ds=>
    simp only[aw];rw[wa]
    by_cases e:f=b
    .subst e
     by_cases K:N=j
     .subst K;obtain⟨u,hu⟩:=n;simp[hu]
     .rw [if_neg (by simpa using λe=>K e.symm),if_neg (by simpa using K)]
    .rw [if_neg (λh'=>e (h.inj f b ds cs d hb h'.1.symm)),if_neg (by simp[e])]
 refine⟨?_,?_,n⟩
 .rw [F];have q:=λp=>St.eO s r x p;refine⟨?_,λB o u hu=>?_,h.nt,λp y hp=>?_,λf N y hp=>?_,λf ds d=>?_,λf ds d=>?_,λf L ds W d I e=>?_,λp z l hp=>?_,h.clinj,λp B hB f ds d=>?_,λp B hB=>?_,(St.re s _ x).trans h.lo,by rw[St.fk];exact h.len,h.sig,h.sp.step (Hp.le_refl _) (λ_ _=>rfl) (λ_ _ k=>St.kI k) (λB o R hk=>by rw[c B (λe=>by subst e;rw[O] at R;cases R;cases hk)];exact R) (λ_ _ _ _ p k=>⟨p,k⟩) (λ_ k=>k) (λ_ _ B _ _ P i=>⟨P,(c B (H _ B P)).trans i,λA=>A⟩)⟩
  .refine ⟨h.fr.os,h.fr.tape,h.fr.output,by rw[m];exact h.fr.size,h.fr.le,λB hB X=>?_,h.fr.mem,h.fr.kn.keep (c _ (h.fr.kn.ne Z))⟩
   rw[c B (λe=>?_)]
   .exact h.fr.heap B hB X
   .subst e;rcases D with hm|hm
    .exact X hm
    .omega
  .have:=h.ok _ _ _ hu;show (w.setCell _ v).cell? _=some u;rw[wa,if_neg (λe=>by rw[<-e.1] at hu;rw[Z] at hu;cases hu)]
   exact this
  .rw [St.fk];rw[q] at hp
   by_cases e:p=.bx b j
   .rw [if_pos e] at hp;cases hp;rw[g p _ (e▸r),if_pos e,Q.cr];exact Q
   .rw [if_neg e] at hp;rw[g p y hp,if_neg e];exact h.val p y hp
  .rw [q] at hp
   by_cases e:Pl.bx f N=.bx b j
   .rw [g _ _ (e▸r),if_pos e];exact P
   .rw [if_neg e] at hp;rw[g _ y hp,if_neg e];exact h.one f N y hp
  .obtain ⟨es,i,A⟩:=s.bF _ x f ds d
   by_cases e:f=b
   .subst e;rw[hb] at i;cases i;exact⟨_,T,C,by simp;omega⟩
   .obtain ⟨us,T',S,J⟩:=h.box f es i;exact⟨us,T',by rw[c _ (λK=>e (h.inj f b es cs i hb K))];exact S,by omega⟩
  .obtain ⟨es,i,A⟩:=s.bF _ x f ds d;exact h.bmem f es i
  .obtain ⟨es,i,_⟩:=s.bF _ x f ds d;obtain⟨V,U,_⟩:=s.bF _ x L W I;exact h.inj f L es V i U e
  .rw [q] at hp
   by_cases e:p=.bx b j
   .rw [if_pos e] at hp;cases hp;have:=Q.cr;simp[AV.aI] at this
   .rw [if_neg e] at hp;obtain⟨ad,k,i,hz,A⟩:=h.own p z l hp;refine⟨ad,k,by rw[g p _ hp,if_neg e];exact i,hz,?_⟩
    rcases A with A|⟨B,hB,S,J⟩
    .exact .inl A
    .obtain ⟨us,T',h6,h7⟩:=J.cells;exact .inr ⟨B,hB,S,J.lt,⟨us,T',by rw[c B (H p B hB)];exact h6,h7⟩,J.free,J.mine⟩
  .obtain ⟨es,i,_⟩:=s.bF _ x f ds d;exact h.clbox p B hB f es i
  .obtain ⟨i,A⟩:=h.cllt p B hB;exact⟨by rw[m];exact i,A⟩
 .simp only[World.frozen?,O];simp
def setAt(xs:List AV):Nat->List AV->List AV
 |_,[]=>xs
 |o,c::cs=>setAt (xs.set o c) (o+1) cs
theorem bn:∀(cs xs:List AV) (o:Nat),(setAt xs o cs).length=xs.length
 |[],_,_=>rfl
 |c::cs,xs,o=>by rw[setAt,bn cs,zm]
theorem St.Ex(s:St)(b:Nat)(xs ys:List AV):(s.aU b xs).aU b ys=s.aU b ys:=by
 simp[St.aU]
theorem c9{P:Program}{E:Entry}{G:Gh}{a:Act}:∀(us:List Value) (xs:List AV) (s:St) (w:World) (b off i:Nat) (cs:List AV),RS E G s a w->aa s.bs b=some cs->off+i+xs.length<=cs.length->us.length=xs.length->(∀u∈us,u.oneCell'=true)->
  (∀j (p:j<xs.length) u,us[j]? =some u->RV G.M G.σ s.bs.length xs[j] u)->∃w',(storeCells ⟨G.σ b,off,none⟩ us i).run P w=.ok () w'/\RS E G (s.aU b (setAt cs (off+i) xs)) a w'
 |[],[],s,w,b,off,i,cs,h,hb,_,_,_,_=>by
  refine⟨w,rfl,?_⟩;have g:=aC hb;refine h.rp (bs':=s.bs.set b (.cells cs)) (λc=>?_) (λc=>?_) (by simp)
  .rw [a7 hb];split
   .rename_i e;rw[e,hb]
   .rfl
  .simp only[ah,zq]
   by_cases e:b=c
   .subst e;simp only[aa] at hb;rw[if_pos rfl,if_pos g]
    cases m:s.bs[b]? with
    |none=>rw[m] at hb;cases hb
    |some y=>
     rw[m] at hb;cases y<;>first|rfl|cases hb
   .rw [if_neg e]
 |u::us,x::xs,s,w,b,off,i,cs,h,hb,hle,f,l,n=>by
  simp only[zX] at hle f;obtain⟨z,t,v0,r⟩:=h.setCell hb (j:=off+i) (by omega) (n 0 (by simp) u rfl) (l u (by simp))
  have k:aa (s.aU b (cs.set (off+i) x)).bs b=some (cs.set (off+i) x):=by
   simp only[St.aU];rw[a7 hb,if_pos rfl]
  obtain⟨w',q,o⟩:=c9 us xs _ _ b off (i+1) _ z k (by simp;omega) (by omega) (λv d=>l v (by simp[d])) (λj p v d=>by
   have:=n (j+1) (by simp;omega) v (by simpa using d)
   simpa[St.aU] using this)
  refine⟨w',?_,?_⟩
  .simp only[storeCells,yW];rw[run_store P w _ u .plain (l u (by simp)),bS,r]
   simp only[t,ZX,if_false,yV];exact q
  .rw [St.Ex] at o;rw[setAt]
   rw[Zk];exact o
 |[],_::_,_,_,_,_,_,_,_,_,_,f,_,_=>by simp at f
 |_::_,[],_,_,_,_,_,_,_,_,_,f,_,_=>by simp at f
def bW(n:Nat)(s:St)(p v:AV)(K:St->Prop):Prop:=
 match p with
 |.ptr b off=>match aa s.bs b with
  |some cs=>req (ba v&&(Nat.beq v.cells.length n&&Nat.ble (off+n) cs.length)) (K (s.aU b (setAt cs off v.cells)))
  |none=>False
 |_=>False
theorem jt{P:Program}{s:St}{o:Oper}{t:TypeId}{p x:Operand}(l:o.op=.store t p x)(j:o.dst=none){k rx:Opd}(hp:opd p=some k)(q:opd x=some rx){n:Nat}(r:dB P t=some n){K:St->Prop}
  (h:bW n s (s.ev k) (s.ev rx) K):OpS P o s K:=by
 have u:∀c,o.op≠.defer c:=λc e=>by rw[l] at e;cases e
 unfold bW at h;split at h
 .rename_i b off g;split at h
  .rename_i cs hb;obtain⟨m,A⟩:=af.1 h;simp only[zD] at m;obtain⟨v,i,hle⟩:=m;have i:=zO i;have hle:=zr hle;refine OpS.skip _ u j A λE G a w hs=>?_;have d:=hs.ev hp;rw[g] at d;obtain⟨d,_⟩:=d.hR;obtain⟨c1,c2,c3⟩:=(hs.ev q).cells v;obtain⟨w',z,y⟩:=c9 (P:=P) (a.eval x).cells.toList (s.ev rx).cells s w b off 0 cs hs hb (by omega) c1 c2 c3
   refine⟨G,w',?_,y⟩;have f:(a.eval x).cells.size=n:=by rw[<-ZJ,c1,i]
   unfold execOp;simp[l,Instr.storeAt,d,Instr.sureAddr,storeVar,aR r,f,z]
  .exact h.elim
 .exact h.elim
def lM(n:Nat)(s:St)(b i z off:Nat)(v:AV)(K:St->Prop):Prop:=
 match aa s.bs b with
 |some cs=>(ba v=true/\v.cells.length=n/\0<n/\i*z+off+n<=cs.length)/\K ⟨s.env,s.bs.set b (.row (setAt cs (i*z+off) v.cells)),s.lo⟩
 |none=>False
theorem RS.OE{E:Entry}{G:Gh}{s:St}{a:Act}{w:World}(h:RS E G s a w){b:Nat}{cs:List AV}(hb:s.bs[b]? =some (.cells cs))(f:cs≠[]):RS E G ⟨s.env,s.bs.set b (.row cs),s.lo⟩ a w:=by
 have d:b<s.bs.length:=(zB.1 hb).1;refine h.rp (λc=>?_) (λc=>?_) (by simp)
 .simp only[aa,zq]
  by_cases e:b=c
  .subst e;rw[if_pos rfl,if_pos d,hb]
   cases cs with
   |nil=>exact absurd rfl f
   |cons c cs=>rfl
  .rw [if_neg e]
 .simp only[ah,zq]
  by_cases e:b=c
  .subst e;rw[if_pos rfl,if_pos d,hb];rfl
  .rw [if_neg e]
theorem Ab{P:Program}{s:St}{o:Oper}{t:TypeId}{p x:Operand}(q:o.op=.store t p x)(k:o.dst=none){m rx:Opd}(hp:opd p=some m)(r:opd x=some rx){n:Nat}(u:dB P t=some n){b i z off:Nat}(g:s.ev m=.elp b i z off){K:St->Prop}
  (h:lM n s b i z off (s.ev rx) K):OpS P o s K:=by
 have y:∀c,o.op≠.defer c:=λc e=>by rw[q] at e;cases e
 unfold lM at h;split at h
 .rename_i cs hb;obtain⟨⟨A,v,F,hle⟩,D⟩:=h;refine OpS.skip _ y k D λE G a w hs=>?_;have d:=hs.ev hp;rw[g] at d;obtain⟨d,_⟩:=d.qJ;obtain⟨c1,c2,c3⟩:=(hs.ev r).cells A;obtain⟨w',C,B⟩:=c9 (P:=P) (a.eval x).cells.toList (s.ev rx).cells s w b (i*z+off) 0 cs hs hb (by omega) c1 c2 c3
  have f:(a.eval x).cells.size=n:=by rw[<-ZJ,c1,v]
  refine⟨G,w',?_,?_⟩
  .unfold execOp;simp[q,Instr.storeAt,d,Instr.sureAddr,storeVar,aR u,f,C]
  .have j:=aC hb
   have l:setAt cs (i*z+off) (s.ev rx).cells≠[]:=λe=>by
    have:=congrArg List.length e;rw[bn] at this;simp only[ZP] at this;omega
   have:=B.OE (b:=b) (cs:=setAt cs (i*z+off) (s.ev rx).cells) (by simp[St.aU,j]) l
   simpa[St.aU] using this
 .exact h.elim
end Go.AM
namespace Go.AM
open Go.CK Go.RowKit
def bm(M:Hp)(B off:Nat)(us:List Value):Hp:=λb o=>if b=B/\off<=o/\o<off+us.length then us[o-off]? else M b o
theorem fP{M:Hp}{B off:Nat}{us:List Value}{j:Nat}{u:Value}(h:us[j]? =some u):bm M B off us B (off+j)=some u:=by
 have b:j<us.length:=by
  rcases zt j us.length with a|a
  .exact a
  .rw [zR a] at h;cases h
 unfold bm;rw[if_pos ⟨rfl,by omega,by omega⟩,show off+j-off=j by omega]
 exact h
theorem dn{M:Hp}{B off:Nat}{us:List Value}(h:∀o,off<=o->M B o=none):M.le (bm M B off us):=λb o v a=>by
 simp only[bm];rw[if_neg]
 .exact a
 .rintro ⟨rfl,c,_⟩;rw[h o c] at a;cases a
theorem b9{M:Hp}{B off:Nat}{us:List Value}{b:Nat}(h:b≠B)(o:Nat):bm M B off us b o=M b o:=by
 simp only[bm];rw[if_neg (λe=>h e.1)]
theorem mz{M:Hp}{B off:Nat}{us:List Value}{b o:Nat}{v:Value}(h:bm M B off us b o=some v):(b=B/\∃j,o=off+j/\us[j]? =some v)\/M b o=some v:=by
 simp only[bm] at h;split at h
 .rename_i a;exact .inl ⟨a.1,o-off,by omega,h⟩
 .exact .inr h
def eZ(M:Hp)(sz:Nat)(l:List AV)(us:List Value):Prop:=
 us.length=l.length*sz/\∀i (h:i<l.length),l[i].cells.length=sz/\∀j (a:j<l[i].cells.length),∃u,us[i*sz+j]? =some u/\u.oneCell'=true/\FV M (l[i].cells[j]) u
theorem eZ.nil(M:Hp)(sz:Nat):eZ M sz [] []:=⟨by simp,λi a=>by cases a⟩
theorem eZ.append{M:Hp}{sz:Nat}{l l2:List AV}{us b:List Value}(h:eZ M sz l us)(n:eZ M sz l2 b):eZ M sz (l++l2) (us++b):=by
 refine⟨by rw[zC,zC,h.1,n.1,ZL],λi m=>?_⟩
 by_cases a:i<l.length
 .have hmul:(i+1)*sz<=l.length*sz:=ZE _ a;rw[ZL,yM] at hmul;simp only[ZH a];obtain⟨g,a2⟩:=h.2 i a;refine⟨g,λj c=>?_⟩;obtain⟨u,f,e,d⟩:=a2 j c;exact⟨u,by rw[zK (by rw[h.1];omega)];exact f,e,d⟩
 .obtain ⟨k,rfl⟩:∃k,i=l.length+k:=⟨i-l.length,by omega⟩
  have hk:k<l2.length:=by simp at m;omega
  have he:(l++l2)[l.length+k]'m=l2[k]:=by
   rw[ZW (by omega)]
   simp
  obtain⟨g,a2⟩:=n.2 k hk;rw[he];refine⟨g,λj c=>?_⟩;obtain⟨u,f,e,d⟩:=a2 j c;refine⟨u,?_,e,d⟩;rw[ZL,<-h.1,zZ (by omega),show us.length+k*sz+j-us.length=k*sz+j by omega]
  exact f
theorem eZ.elems{M M':Hp}(c:M.le M'){sz B off:Nat}{l:List AV}{us:List Value}(h:eZ M sz l us)(hu:∀j u,us[j]? =some u->M' B (off+j)=some u):gl M' B off sz l:=λi b=>by
 obtain⟨g,a2⟩:=h.2 i b;refine⟨g,λj a=>?_⟩;obtain⟨u,f,e,d⟩:=a2 j a;exact⟨u,by rw[Zk];exact hu _ _ f,e,d.mono c⟩
theorem gl.rowOf{M:Hp}{B off sz:Nat}{l:List AV}(h:gl M B off sz l):∃us,eZ M sz l us/\∀j u,us[j]? =some u->M B (off+j)=some u:=by
 have e:∀o,o<l.length*sz->∃u,M B (off+o)=some u:=λo m=>by
  have b:0<sz:=by
   rcases Nat.eq_zero_or_pos sz with k|k
   .subst k;omega
   .exact k
  have d:o/sz<l.length:=(Zr b).2 m;have c:=yT o b;obtain⟨q,a2⟩:=h _ d;obtain⟨u,f,_⟩:=a2 (o %sz) (by omega)
  refine⟨u,?_⟩;rw[<-f,Zk];congr 1;have:=yG o sz;rw[yP] at this;omega
 refine⟨(List.range (l.length*sz)).map λo=>(M B (off+o)).getD undef,⟨by simp,λi d=>⟨(h i d).1,λj c=>?_⟩⟩,λj u hu=>?_⟩
 .obtain ⟨q,a2⟩:=h i d;obtain⟨u,f,p,n⟩:=a2 j c;have hmul:(i+1)*sz<=l.length*sz:=ZE _ d;rw[ZL,yM] at hmul;refine⟨u,?_,p,n⟩;rw[Zk] at f;simp[List.getElem?_range (show i*sz+j<l.length*sz by omega),f]
 .have c:j<l.length*sz:=by
   rcases zt j (l.length*sz) with g|g
   .exact g
   .rw [zR (by simpa using g)] at hu;cases hu
  obtain⟨r,a⟩:=e j c;simp[c,a] at hu;rw[a,hu]
section
variable{E:Entry}{G:Gh}{s:St}{a:Act}{w:World}{P:Program}
theorem RS.noM(h:RS E G s a w)(o:Nat):G.M w.heap.size o=none:=by
 cases b:G.M w.heap.size o with
 |none=>rfl
 |some v=>exact absurd (Hp.lt h.ok b) (by omega)
theorem RS.newRow(h:RS E G s a w)(vs:Array Value)(T:TypeId)(us:List Value)(hp:∀(j:Nat) u,us[j]? =some u->vs[j]? =some u):
  RS E {G with M:=bm G.M w.heap.size 0 us} s a (w.alloc (.cells vs T)):=by
 refine h.grow ⟨rfl,rfl,rfl,by simp,dn λo _=>h.noM o,λB hB _=>Below.heap_alloc _ _ _ hB,λB hB _ o=>b9 (by omega) o⟩ λb o v d=>?_
 rcases mz d with ⟨rfl,j,rfl,e⟩|d
 .have c:(w.alloc (.cells vs T)).heap[w.heap.size]? =some (.cells vs T (0,0)):=heap_alloc_new w _;simp only[Hp.of,World.cell?,c];simpa using hp j v e
 .exact (Ext.refl w).alloc _|>.cell (h.ok _ _ _ d)
structure He(E:Entry)(G:Gh)(s:St)(w:World)(B z n k:Nat)(p:Pl):Prop where
 row:Row E.FP E.w G.M w B z n k
 only:∀q,G.cl q=some B->q=p
 box:∀b cs,aa s.bs b=some cs->G.σ b≠B
 lt:B<w.heap.size
 not:∀z l,s.at p≠some (.sl (.own z) l)
 nl:∀b j,p=.bx b j->ah s.bs b=none
theorem RS.Nz(h:RS E G s a w){d p:Pl}{o:Cap}{l:List AV}{B z k:Nat}(t:s.at d=some (.sl o l))(Q:aw G.σ a w d=.slice (some ⟨B,0,none⟩) l.length k)(hs:He E G s w B z l.length k p)(P:∀y∈l,y.cells.length=z):
  RS E {G with cl:=λr=>if r=d then some B else if r=p then none else G.cl r} (s.upd d (.sl (.own z) l)) a w:=by
 have H:=h.val d _ t
 refine⟨h.fr,h.ok,h.nt,λr u hu=>?_,λb j u hu=>?_,λb cs hb=>?_,λb cs hb=>?_,λb N cs L hb I e=>?_,λr O l' hr=>?_,λr r' B' hr g=>?_,λr B' c b cs hb=>?_,λr B' c=>?_,(St.re s d _).trans h.lo,by rw[St.fk];exact h.len,h.sig,h.sp.step (Hp.le_refl _) (λ_ _=>rfl) (λ_ _ k=>St.kI k) (λ_ _ k _=>k) (λB' o M hk r k=>by
  simp only at k
  by_cases D:r=d
  .rw [if_pos D] at k;cases k;obtain⟨vs,T,R,_⟩:=hs.row.cells;rw[R] at M;cases M;cases hk
  .rw [if_neg D] at k
   by_cases C:r=p
   .rw [if_pos C] at k;cases k
   .rw [if_neg C] at k;exact⟨r,k⟩) (λ_ k=>k) (λb j B' o q A v=>⟨by
    have D:Pl.bx b j≠d:=λe=>by rw[<-e,Bz q] at t;cases t
    have C:Pl.bx b j≠p:=λe=>by rw[hs.nl b j e.symm] at q;cases q
    simp only[if_neg D,if_neg C];exact A,v,λx=>x⟩)⟩
 .rw [St.eO s t] at hu;rw[St.fk]
  by_cases hr:r=d
  .rw [if_pos hr] at hu;cases hu;rw[hr];have:=H.ay;rw[Du] at this;exact this
  .rw [if_neg hr] at hu;exact h.val r u hu
 .rw [St.eO s t] at hu
  by_cases hr:Pl.bx b j=d
  .exact h.one b j _ (hr▸t)
  .rw [if_neg hr] at hu;exact h.one b j u hu
 .obtain ⟨ds,q,A⟩:=s.bF d _ b cs hb;obtain⟨vs,T,v,x⟩:=h.box b ds q;exact⟨vs,T,v,ZN (by omega) x⟩
 .obtain ⟨ds,q,A⟩:=s.bF d _ b cs hb;exact h.bmem b ds q
 .obtain ⟨ds,q,_⟩:=s.bF d _ b cs hb;obtain⟨K,J,_⟩:=s.bF d _ N L I;exact h.inj b N ds K q J e
 .rw [St.eO s t] at hr
  by_cases f:r=d
  .rw [if_pos f] at hr;cases hr;exact⟨_,k,by rw[f];exact Q,P,.inr ⟨B,by simp[f],rfl,hs.row⟩⟩
  .rw [if_neg f] at hr;obtain⟨U,k',A,F,v⟩:=h.own r O l' hr;refine⟨U,k',A,F,?_⟩;rcases v with v|⟨B',c,x,S⟩
   .exact .inl v
   .refine .inr ⟨B',?_,x,S⟩;have:r≠p:=λe=>hs.not _ _ (e▸hr);simp only[f,this,if_false];exact c
 .simp only at hr g
  by_cases f:r=d
  .rw [if_pos f] at hr
   by_cases n:r'=d
   .rw [f,n]
   .rw [if_neg n] at g
    by_cases i:r'=p
    .rw [if_pos i] at g;cases g
    .rw [if_neg i] at g;cases hr;exact absurd (hs.only _ g) i
  .rw [if_neg f] at hr
   by_cases m:r=p
   .rw [if_pos m] at hr;cases hr
   .rw [if_neg m] at hr
    by_cases n:r'=d
    .rw [if_pos n] at g;cases g;exact absurd (hs.only _ hr) m
    .rw [if_neg n] at g
     by_cases i:r'=p
     .rw [if_pos i] at g;cases g
     .rw [if_neg i] at g;exact h.clinj _ _ B' hr g
 .obtain ⟨ds,q,_⟩:=s.bF d _ b cs hb;simp only at c
  by_cases f:r=d
  .rw [if_pos f] at c;cases c;exact hs.box b ds q
  .rw [if_neg f] at c
   by_cases m:r=p
   .rw [if_pos m] at c;cases c
   .rw [if_neg m] at c;exact h.clbox r B' c b ds q
 .simp only at c
  by_cases f:r=d
  .rw [if_pos f] at c;cases c;exact⟨hs.lt,hs.row.mine⟩
  .rw [if_neg f] at c
   by_cases m:r=p
   .rw [if_pos m] at c;cases c
   .rw [if_neg m] at c;exact h.cllt r B' c
theorem RS.fill(h:RS E G s a w){B z n k:Nat}{p:Pl}(hs:He E G s w B z n k p){m:Nat}(us:List Value)(hu:us.length=m*z)(V:n+m<=k)(d:∀u∈us,u.oneCell'=true):
  ∃w',(storeCells (⟨B,n*z,none⟩:Addr) us).run P w=.ok () w'/\RS E {G with M:=bm G.M B (n*z) us} s a w'/\w'.heap.size=w.heap.size/\
   (n+m<k->He E {G with M:=bm G.M B (n*z) us} s w' B z (n+m) k p):=by
 obtain⟨vs,T,L,hvs⟩:=hs.row.cells
 have R:n*z+us.length<=vs.size:=by
  rw[hu,hvs,<-ZL];exact ZE _ V
 have H:=run_storeCells_at P B (n*z) T us 0 vs w L (by simpa using R) d
 simp only[Zf] at H;have C:=setRow_heap w B vs (vs.toList.take (n*z)++us++vs.toList.drop (n*z+us.length)).toArray T (0,0) L
 have c:∀k,k≠B->(w.setRow B (vs.toList.take (n*z)++us++vs.toList.drop (n*z+us.length)).toArray).heap[k]? =w.heap[k]?:=λk hk=>by
  simp only[World.setRow,Array.getElem?_modify];rw[if_neg (Ne.symm hk)]
 have f:(w.setRow B (vs.toList.take (n*z)++us++vs.toList.drop (n*z+us.length)).toArray).heap.size=w.heap.size:=by simp[World.setRow]
 have hlen:(vs.toList.take (n*z)++us++vs.toList.drop (n*z+us.length)).length=vs.size:=by
  simp;omega
 have Y:∀(j:Nat) u,us[j]? =some u->(vs.toList.take (n*z)++us++vs.toList.drop (n*z+us.length))[n*z+j]? =some u:=λj u Q=>by
  have X:j<us.length:=by
   rcases zt j us.length with d|d
   .exact d
   .rw [zR d] at Q;cases Q
  rw[zg,zZ (by simp;omega)]
  simp only[zn,ZJ];rw[show n*z+j-min (n*z) vs.size=j by omega,zK X];exact Q
 have N:∀(o:Nat),o<n*z->(vs.toList.take (n*z)++us++vs.toList.drop (n*z+us.length))[o]? =vs[o]?:=λo A=>by
  rw[zg,zK (by simp;omega),Za,if_pos A,Array.getElem?_toList]
 have x:∀q y,s.at q=some y->aw G.σ a (w.setRow B (vs.toList.take (n*z)++us++vs.toList.drop (n*z+us.length)).toArray) q=aw G.σ a w q:=λq y r=>by
  cases q with
  |sl t=>rfl
  |bx b j=>
   simp only[St.at] at r
   cases hb:aa s.bs b with
   |none=>rw[hb] at r;cases r
   |some cs=>simp only[aw];rw[bN (c _ (hs.box b cs hb))]
 have g:=hs.row.free;have l:G.M.le (bm G.M B (n*z) us):=dn g
 have Z:KB≠B:=by
  rcases Nat.eq_zero_or_pos z with h0|h0
  .intro e;obtain⟨T',fz,d⟩:=h.fr.kn.tb;rw[e,L] at d;cases d;subst h0;simp[KV] at hvs
  .exact h.fr.kn.neR (m:=n*z) L (by rw[hvs];exact Nat.mul_lt_mul_of_pos_right hs.row.lt h0) (g _ (zG _))
 refine⟨_,H,?_,f,λW=>?_⟩
 .refine ⟨?_,λb o v hv=>?_,h.nt,λq y r=>?_,λb j y r=>?_,λb cs hb=>?_,λb cs hb=>?_,h.inj,λq z' l' r=>?_,h.clinj,h.clbox,λq B' i=>by rw[f];exact h.cllt q B' i,h.lo,h.len,h.sig,h.sp.step l (λ_ _=>rfl) (λ_ _ k=>k) (λB' o A hk=>by rw[c B' (λe=>by subst e;rw[L] at A;cases A;cases hk)];exact A) (λ_ _ _ _ p k=>⟨p,k⟩) (λ_ k=>k) (λb j B' o d I F=>by
   have D:B'≠B:=λe=>by
    have:=hs.nl b j (hs.only _ (e▸I)).symm;rw[this] at d;cases d
   exact⟨I,(c B' D).trans F,λh4 k=>(b9 D k).trans (h4 k)⟩)⟩
  .refine ⟨h.fr.os,h.fr.tape,h.fr.output,by rw[f];exact h.fr.size,Hp.le_trans h.fr.le l,λB' i O=>?_,λB' i O o=>?_,(h.fr.kn.mono l).keep (c _ Z)⟩
   .have:B'≠B:=λe=>by
     subst e;rcases hs.row.mine with d|d
     .exact O d
     .omega
    rw[c B' this];exact h.fr.heap B' i O
   .have:B'≠B:=λe=>by
     subst e;rcases hs.row.mine with d|d
     .exact O d
     .omega
    exact(b9 this o).trans (h.fr.mem B' i O o)
  .rcases mz hv with ⟨rfl,j,rfl,Q⟩|K
   .simp only[Hp.of,World.cell?,C];simp only[Zu,ZX,if_false,yS];exact Y j v Q
   .have:=h.ok _ _ _ K
    by_cases e:b=B
    .subst e
     have A:o<n*z:=by
      rcases zt o (n*z) with d|d
      .exact d
      .rw [g o d] at K;cases K
     simp only[Hp.of,World.cell?,L] at this;simp only[Hp.of,World.cell?,C];simp only[Zu,ZX,if_false,yS] at this|-;rw[N o A];exact this
    .simp only[Hp.of];rw[bN (c b e)];exact this
  .rw [x q y r];exact(h.val q y r).mono l (zG _) (λ_ _=>rfl)
  .rw [x _ y r];exact h.one b j y r
  .obtain ⟨J,T',I,F⟩:=h.box b cs hb;exact⟨J,T',by rw[c _ (hs.box b cs hb)];exact I,F⟩
  .obtain ⟨I,F⟩:=h.bmem b cs hb;exact⟨λo=>(b9 (hs.box b cs hb) o).trans (I o),F⟩
  .obtain ⟨ad,k',I,U,F⟩:=h.own q z' l' r;refine⟨ad,k',by rw[x q _ r];exact I,U,?_⟩
   rcases F with F|⟨B',i,h4,S⟩
   .exact .inl F
   .have D:B'≠B:=λe=>by
     subst e;have:=hs.only q i;subst this;exact hs.not _ _ r
    obtain⟨J,T',h6,h7⟩:=S.cells;exact .inr ⟨B',i,h4,S.lt,⟨J,T',by rw[c B' D];exact h6,h7⟩,λo A=>(b9 D o).trans (S.free o A),S.mine⟩
 .refine ⟨⟨W,⟨_,T,C,by rw[List.size_toArray,hlen,hvs]⟩,λo A=>?_,hs.row.mine⟩,hs.only,hs.box,by rw[f];exact hs.lt,hs.not,hs.nl⟩
  simp only[bm];rw[if_neg (λe=>by have:=e.2.2;rw[hu,<-ZL] at this;omega)]
  exact g o (ZN (ZE _ (yA _ _)) A)
structure SV(M:Hp)(l:List AV)(sz:Nat)(v:Value)(ad:Option Addr)(k B off:Nat):Prop where
 eq:v=.slice ad l.length k
 cap:l.length<=k
 len:l.length<=lim
 at_:l≠[]->ad=some ⟨B,off,none⟩
 el:gl M B off sz l
theorem RV.sv{M:Hp}{σ:Nat->Nat}{n:Nat}{o:Cap}{l:List AV}{v:Value}(h:RV M σ n (.sl o l) v){sz:Nat}(d:∀y∈l,y.cells.length=sz):∃a k B off,SV M l sz v a k B off:=by
 obtain⟨a,k,B,off,c,m,r,j,g,q,f,e⟩:=h.cX;refine⟨a,k,B,off,m,j,g,f,λi b=>?_⟩;obtain⟨p,a2⟩:=e i b;have:=d _ (zc b);refine⟨this,?_⟩;rw[<-this,p];exact a2
theorem SV.rv{M:Hp}{σ:Nat->Nat}{n sz:Nat}{o:Cap}{l:List AV}{v:Value}{c:Option Addr}{k B off:Nat}(h:SV M l sz v c k B off)(a:∀z,o≠.own z)(b:o=.full->k=l.length):RV M σ n (.sl o l) v:=by
 rw[h.eq];exact .flat (.jw a h.cap h.len b h.at_ h.el)
theorem SV.row{M:Hp}{l:List AV}{sz:Nat}{v:Value}{p:Option Addr}{k B off:Nat}(h:SV M l sz v p k B off)(d:M.le (Hp.of w)):
  ∃us,eZ M sz l us/\(∀u∈us,u.oneCell'=true)/\∀j u,us[j]? =some u->w.cell? ⟨B,off+j,none⟩=some u:=by
 obtain⟨us,b,m⟩:=h.el.rowOf;refine⟨us,b,λu hu=>?_,λj u g=>d _ _ _ (m j u g)⟩;obtain⟨o,c,rfl⟩:=ZZ.1 hu
 have a:0<sz:=by
  rcases Nat.eq_zero_or_pos sz with e|e
  .subst e;rw[b.1] at c;omega
  .exact e
 rw[b.1] at c;have i:o/sz<l.length:=(Zr a).2 c;obtain⟨q,a2⟩:=b.2 _ i;obtain⟨u,f,n,_⟩:=a2 (o %sz) (by rw[q];exact yT o a)
 have he:o/sz*sz+o %sz=o:=by have:=yG o sz;rw[yP] at this;exact this
 rw[he,zA (by rw[b.1];exact c)] at f
 cases f;exact n
theorem pg(w:World)(c:Option Addr)(B off n sz k:Nat)(us:List Value)(d:us.length=n*sz)(g:n≠0->c=some ⟨B,off,none⟩)(hu:∀j u,us[j]? =some u->w.cell? ⟨B,off+j,none⟩=some u):
  (Builtin.firstCells sz n (.slice c n k)).run P w=.ok us.toArray w\/(n=0/\us=[]/\(Builtin.firstCells sz n (.slice c n k)).run P w=.ok #[] w):=by
 by_cases e:n=0
 .subst e
  have a:us=[]:=by
   have:us.length=0:=by rw[d];simp
   exact ZV.1 this
  refine .inr ⟨rfl,a,?_⟩
  cases c with
  |none=>rfl
  |some b=>simp[Builtin.firstCells,loadCells,loadCellsFrom]
 .refine .inl ?_;rw[g e];simp only[Builtin.firstCells];have:=run_loadCells_list (P:=P) w ⟨B,off,none⟩ us (λj v f=>by rw[bS];exact hu j v f)
  rw[d] at this;exact this
theorem bB(w:World){a:Option Addr}{B off n sz k:Nat}{us:List Value}(b:us.length=n*sz)(c:n≠0->a=some ⟨B,off,none⟩)(hu:∀j u,us[j]? =some u->w.cell? ⟨B,off+j,none⟩=some u):
  (Builtin.firstCells sz n (.slice a n k)).run P w=.ok us.toArray w:=by
 rcases pg (P:=P) w a B off n sz k us b c hu with h|⟨_,e,d⟩
 .exact h
 .rw [e];exact d
structure On(P:Program)(t e:TypeId)(sz:Nat):Prop where
 sl:P.underlying t=some (.slice e)
 ex:∃i z,P.info? e=some i/\i.zero=some z/\i.size=sz/\z.cells.size=sz/\i.bytes<=4096
theorem kF{t e sz bytes:Nat}{i:TypeInfo}{z:Value}(q:P.underlying t=some (.slice e))(r:P.info? e=some i)(s:i.zero=some z)(o:i.size=sz)(p:i.bytes=bytes)
  (ty:TypeId) (f:Option Addr) (n k:Nat) (j:Option Addr) (m c:Nat) (w:World) (hle:n+m<=lim) (hb:bytes<=4096):
  (Builtin.append_ #[t,t] ty #[.slice f n k,.slice j m c]).run P w=
   if n+m<=k then ((Builtin.firstCells sz m (.slice j m c)).run P w).andThen λnew l=>
     ((match f with|some a=>storeCells (a.add (n*sz)) new.toList|none=>Pure.pure ():Sem Unit).run P l).andThen λ_ g=>.ok (.slice f (n+m) k) g
   else ((Builtin.firstCells sz n (.slice f n k)).run P w.drew).andThen λold l=>((Builtin.firstCells sz m (.slice j m c)).run P l).andThen λnew g=>
    .ok (.slice (some ⟨g.heap.size,0,none⟩) (n+m) (grownCap w (n+m) k e)) (g.alloc (.cells (old++new++Builtin.zeroCells z.cells (grownCap w (n+m) k e-(n+m))) e)):=by
 subst o p
 by_cases h:n+m<=k
 .rw [if_pos h];cases f<;>simp[Builtin.append_,run_underlying q,sizeOf,typeInfo,r,Builtin.lenOf,h]
 .rw [if_neg h];have b:¬(9223372036854775807<((n:Int)+(m:Int))):=by unfold lim at hle;omega
  have d:¬(281474976710656<Builtin.nextslicecap (n+m) k*i.bytes):=by
   have u:=Nat.mul_le_mul hle hb;have:=growslice_fits (need:=n+m) (old:=k) (bytes:=i.bytes) (by omega) (by unfold lim at u;omega)
   omega
  simp[Builtin.append_,run_underlying q,sizeOf,typeInfo,zeroValue,r,s,Builtin.lenOf,h,b,d,Question.forced,newRow,grownCap]
end
end Go.AM
