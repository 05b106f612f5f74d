/-
  Texts of this aV joined (wip/gen/bundle.py),those declarations only that are needed:AmM AmN. By an AI agent.
-/
import Derived.Test.YtcjfkbdbcgmomaaGreatDoorSab
set_option linter.unusedSimpArgs false
set_option linter.unusedVariables false
namespace Go.AM
open Go.CK Go.RowKit
theorem bN(B off n:Nat):(⟨B,off,none⟩:Addr).add n=⟨B,off+n,none⟩:=by
 unfold Addr.add;split<;>simp_all
def Lu:TypeDesc->Bool
 |.struct _|.array _ _=>true
 |_=>false
def aW:AV->Bool
 |.top|.tup _=>false
 |_=>true
section
variable{E:Entry}{G:Gh}{s:St}{a:Act}{w:World}{P:Program}{M:Hp}{σ:Nat->Nat}{n:Nat}
theorem FV.one{x:AV}{v:Value}(h:FV M x v)(ht:aW x=true)(ha:x.isAgg=false):v.oneCell'=true:=by
 cases h<;>first|rfl|(simp[aW] at ht;done)|(simp[AV.isAgg] at ha;done)
theorem RV.one{x:AV}{v:Value}(h:RV M σ n x v)(ht:aW x=true)(ha:x.isAgg=false):v.oneCell'=true:=by
 cases h with
 |flat h=>exact h.one ht ha
 |agg=>simp[AV.isAgg] at ha
 |tup=>simp[aW] at ht
 |_=>rfl
theorem FV.scalar{x:AV}{v:Value}(h:FV M x v)(ht:aW x=true)(ha:x.isAgg=false):v.cells=#[v]:=by
 cases h<;>first|rfl|(simp[aW] at ht;done)|(simp[AV.isAgg] at ha;done)
theorem RV.scalar{x:AV}{v:Value}(h:RV M σ n x v)(ht:aW x=true)(ha:x.isAgg=false):v.cells=#[v]:=by
 cases h with
 |flat h=>exact h.scalar ht ha
 |agg=>simp[AV.isAgg] at ha
 |tup=>simp[aW] at ht
 |_=>rfl
theorem RV.cells{x:AV}{v:Value}(h:RV M σ n x v)(ht:aW x=true):
  v.cells.toList.length=x.cells.length/\(∀u∈v.cells.toList,u.oneCell'=true)/\∀j (hj:j<x.cells.length) u,v.cells.toList[j]? =some u->RV M σ n (x.cells[j]) u:=by
 cases hx:x.isAgg with
 |false=>
  have hc:x.cells=[x]:=by cases x<;>first|rfl|(simp[AV.isAgg] at hx)
  rw[h.scalar ht hx];have h1:=h.one ht hx;refine⟨by rw[hc];rfl,λu hu=>by simp at hu;rw[hu];exact h1,λj hj u hu=>?_⟩
  rw[hc] at hj;obtain rfl:j=0:=by simpa using hj
  simp at hu;subst hu
  simp only[hc,ZS];exact h
 |true=>
  cases x with
  |agg cs=>
   obtain⟨vs,rfl,hl,h1,hv⟩:=h.dR
   exact⟨by simpa[Value.cells,AV.cells] using hl,by simpa[Value.cells] using h1,λj hj u hu=>hv j hj u (by simpa[Value.cells] using hu)⟩
  |_=>simp[AV.isAgg] at hx
def St.rd(s:St):AV->Option (List AV)
 |.ept cs=>some cs
 |.ptr b off=>match aa s.bs b with
  |some cs=>some ((cs.drop off).map AV.aG)
  |none=>none
 |.elp b i z off=>match aa s.bs b with
  |some cs=>some ((cs.drop (i*z+off)).map AV.aG)
  |none=>none
 |_=>none
theorem RS.si(h:RS E G s a w){b:Nat}{cs:List AV}(hb:aa s.bs b=some cs)(j:Nat)(hj:j<cs.length):
  ∃u,w.cell? ⟨G.σ b,j,none⟩=some u/\u.oneCell'=true/\RV G.M G.σ s.bs.length (cs[j]).aG u:=by
 obtain⟨vs,T,h1,h2⟩:=h.box b cs hb
 have hc:w.cell? ⟨G.σ b,j,none⟩=some (vs[j]'(by omega)):=by
  simp only[World.cell?,h1];simp[show j<vs.size by omega]
 have hat:s.at (.bx b j)=some cs[j]:=by simp[St.at,hb,hj]
 have hv:=h.val (.bx b j) _ hat;have h3:=h.one b j _ hat;simp only[aw,hc,ZU] at hv h3;exact⟨_,hc,h3,hv⟩
theorem RS.rd(h:RS E G s a w){x:AV}{v:Value}(hx:RV G.M G.σ s.bs.length x v){cs:List AV}(hr:s.rd x=some cs):
  ∃B off,v=.pointer (some ⟨B,off,none⟩)/\∀j (hj:j<cs.length),∃u,w.cell? ⟨B,off+j,none⟩=some u/\u.oneCell'=true/\RV G.M G.σ s.bs.length cs[j] u:=by
 cases x<;>first|(cases hr;done)|skip
 case ept ds=>
  cases hr;obtain⟨B,off,rfl,hc⟩:=hx.pQ;refine⟨B,off,rfl,λj hj=>?_⟩;obtain⟨u,h1,h2,h3⟩:=hc j hj;exact⟨u,h.ok _ _ _ h1,h2,.flat h3⟩
 case ptr b off=>
  simp only[St.rd] at hr;obtain⟨rfl,hb⟩:=hx.eP
  cases hbc:aa s.bs b with
  |none=>rw[hbc] at hr;cases hr
  |some ds=>
   rw[hbc] at hr;cases hr;refine⟨G.σ b,off,rfl,λj hj=>?_⟩;simp only[zF,Zg] at hj;obtain⟨u,h1,h2,h3⟩:=h.si hbc (off+j) (by omega)
   refine⟨u,h1,h2,?_⟩;rw[ZE,yC];exact h3
 case elp b i z o=>
  simp only[St.rd] at hr;obtain⟨rfl,hb⟩:=hx.pR
  cases hbc:aa s.bs b with
  |none=>rw[hbc] at hr;cases hr
  |some ds=>
   rw[hbc] at hr;cases hr;refine⟨G.σ b,i*z+o,rfl,λj hj=>?_⟩;simp only[zF,Zg] at hj;obtain⟨u,h1,h2,h3⟩:=h.si hbc (i*z+o+j) (by omega)
   refine⟨u,h1,h2,?_⟩;rw[ZE,yC];exact h3
def ct(w:World)(B off n:Nat):List Value:=(List.range n).map λj=>(w.cell? ⟨B,off+j,none⟩).getD undef
theorem gk(P:Program)(w:World)(B off n:Nat)(h:∀j,j<n->∃u,w.cell? ⟨B,off+j,none⟩=some u):
  (loadCells ⟨B,off,none⟩ n).run P w=.ok (ct w B off n).toArray w:=by
 have:=run_loadCells_list (P:=P) w ⟨B,off,none⟩ (ct w B off n) (λj v hv=>by
  rw[bN]
  have hj:j<n:=by
   rcases zu j n with h1|h1
   .exact h1
   .rw [zS (by simpa[ct] using h1)] at hv;cases hv
  obtain⟨u,hu⟩:=h j hj;simp[ct,hj,hu] at hv;rw[hu,hv])
 simpa[ct] using this
theorem CU{t:TypeId}{b:Bool}{d:TypeDesc}(hu:P.underlying t=some d)(hd:Lu d=b)(w:World):(isAgg t).run P w=.ok b w:=by
 unfold isAgg;rw[ya,run_underlying hu w];cases d<;>subst hd<;>rfl
theorem aL{t:TypeId}{k:Nat}(h:(P.info? t).map (·.size)=some k)(w:World):(sizeOf t).run P w=.ok k w:=by
 cases hi:P.info? t with
 |none=>rw[hi] at h;cases h
 |some i=>
  rw[hi] at h;simp only[zM,zO] at h;simp[sizeOf,typeInfo,hi,h]
end
def nP(P:Program)(t:TypeId):Option Bool:=(P.underlying t).map Lu
def dH(P:Program)(t:TypeId):Option Nat:=(P.info? t).map (·.size)
theorem dD{P:Program}{t:TypeId}{b:Bool}(h:nP P t=some b)(w:World):(isAgg t).run P w=.ok b w:=by
 unfold nP at h
 cases hu:P.underlying t with
 |none=>rw[hu] at h;cases h
 |some d=>rw[hu] at h;simp only[zM,zO] at h;exact CU hu h w
def bL(agg:Bool)(n:Nat)(cs:Option (List AV))(K:AV->Prop):Prop:=
 match cs with
 |some cs=>match agg with
  |true=>req (Nat.ble n cs.length) (K (.agg (cs.take n)))
  |false=>match cs with
   |c::_=>K c
   |[]=>False
 |none=>False
theorem iU{P:Program}{s:St}{o:Oper}{t:TypeId}{x:Operand}(ho:o.op=.load t x){rx:Opd}(hx:opd x=some rx){agg:Bool}{n:Nat}(ha:nP P t=some agg)(hn:agg=true->dH P t=some n){K:St->Prop}
  (h:bL agg n (s.rd (s.ev rx)) λr=>K (s.put o.dst r)):OpS P o s K:=by
 have hd:∀c,o.op≠.defer c:=λc e=>by rw[ho] at e;cases e
 unfold bL at h;split at h
 .rename_i cs hcs;split at h
  .obtain ⟨h1,h2⟩:=af.1 h;have hle:n<=cs.length:=zt h1;refine OpS.pure _ hd h2 λE G a w hs=>?_;obtain⟨B,off,hv,hc⟩:=hs.rd (hs.ev hx) hcs;have hr:=gk P w B off n (λj hj=>let ⟨u,h,_⟩:=hc j (by omega);⟨u,h⟩)
   refine⟨.agg (ct w B off n).toArray,?_,?_⟩
   .unfold execOp;simp[ho,Instr.loadAt,hv,Instr.sureAddr,loadVar,dD ha,aL (hn rfl),hr]
   .refine .agg _ _ (by simp[ct];omega) (λu hu=>?_) (λj hj u hu=>?_)
    .simp only[ct,zl,ze] at hu;obtain⟨j,hj,rfl⟩:=hu;obtain⟨u,h1,h2,_⟩:=hc j (by omega)
     rw[h1];exact h2
    .simp only[zo] at hj;obtain⟨u',h1,h2,h3⟩:=hc j (by omega)
     simp[ct,show j<n by omega,h1] at hu
     subst hu;rw[Zs];exact h3
  .split at h
   .rename_i c rest;refine OpS.pure _ hd h λE G a w hs=>?_;obtain⟨B,off,hv,hc⟩:=hs.rd (hs.ev hx) hcs;obtain⟨u,h1,_,h3⟩:=hc 0 (by simp)
    rw[Zi] at h1;refine⟨u,?_,h3⟩;unfold execOp;simp[ho,Instr.loadAt,hv,Instr.sureAddr,loadVar,dD ha,h1]
   .exact h.elim
 .exact h.elim
theorem RS.nV{E:Entry}{G:Gh}{s:St}{a:Act}{w:World}(h:RS E G s a w)(bx:Box)(cs:List AV)(hlb:bx.lb? =none)(hbx:∀ds,bx.cs? =some ds->ds=cs)(vs:List Value)(T:TypeId)(hl:cs.length<=vs.length)(h1:∀v∈vs,v.oneCell'=true)
  (hv:∀j (hj:j<cs.length) v,vs[j]? =some v->RV G.M G.σ s.bs.length cs[j] v):
  RS E {G with σ:=λb=>if b=s.bs.length then w.heap.size else G.σ b} ⟨s.env,s.bs++[bx],s.lo⟩ a (w.alloc (.cells vs.toArray T)):=by
 have hg:RS E G s a (w.alloc (.cells vs.toArray T)):=h.grow (M':=G.M) ⟨rfl,rfl,rfl,by simp,Hp.le_refl _,λB hB _=>Below.heap_alloc _ _ _ hB,λ_ _ _ _=>rfl⟩ (Hp.ext h.ok ((Ext.refl w).alloc _))
 have hsig:∀b,b<s.bs.length->(λb=>if b=s.bs.length then w.heap.size else G.σ b) b=G.σ b:=λb hb=>by simp only;rw[if_neg (by omega)]
 have hlen:(s.bs++[bx]).length=s.bs.length+1:=by simp
 have hnew:(w.alloc (.cells vs.toArray T)).heap[w.heap.size]? =some (.cells vs.toArray T (0,0)):=heap_alloc_new w _
 have hold:∀b ds,aa (s.bs++[bx]) b=some ds->(b=s.bs.length/\ds=cs)\/(b<s.bs.length/\aa s.bs b=some ds):=λb ds hb=>by
  rw[al] at hb
  by_cases e:b=s.bs.length
  .rw [if_pos e] at hb;exact .inl ⟨e,hbx _ hb⟩
  .rw [if_neg e] at hb;exact .inr ⟨aB hb,hb⟩
 have hatold:∀p x,(⟨s.env,s.bs++[bx],s.lo⟩:St).at p=some x->(∃j,p=.bx s.bs.length j/\cs[j]? =some x)\/(s.at p=some x/\∀j,p≠.bx s.bs.length j):=λp x hp=>by
  cases p with
  |sl t=>exact .inr ⟨hp,λj e=>by cases e⟩
  |bx b j=>
   simp only[St.at] at hp
   cases hb:aa (s.bs++[bx]) b with
   |none=>rw[hb] at hp;cases hp
   |some ds=>
    rw[hb] at hp;simp only[ZH] at hp;rcases hold b ds hb with ⟨rfl,rfl⟩|⟨hlt,hb'⟩
    .exact .inl ⟨j,rfl,hp⟩
    .refine .inr ⟨by simp only[St.at,hb',ZH];exact hp,λj' e=>?_⟩
     cases e;omega
 have hvalold:∀p x,s.at p=some x->aw (λb=>if b=s.bs.length then w.heap.size else G.σ b) a (w.alloc (.cells vs.toArray T)) p=aw G.σ a (w.alloc (.cells vs.toArray T)) p:=λp x hp=>by
  cases p with
  |sl t=>rfl
  |bx b j=>
   simp only[St.at] at hp
   cases hb:aa s.bs b with
   |none=>rw[hb] at hp;cases hp
   |some ds=>simp only[aw];rw[if_neg (by have:=aB hb;omega)]
 have hvalnew:∀j x,cs[j]? =some x->∃v,vs[j]? =some v/\v.oneCell'=true/\RV G.M G.σ s.bs.length x v/\aw (λb=>if b=s.bs.length then w.heap.size else G.σ b) a (w.alloc (.cells vs.toArray T)) (.bx s.bs.length j)=v:=λj x hj=>by
  have hjl:j<cs.length:=by
   rcases zu j cs.length with h1|h1
   .exact h1
   .rw [zS h1] at hj;cases hj
  have hjv:vs[j]? =some (vs[j]'(by omega)):=zA _
  rw[zA hjl] at hj;cases hj;refine⟨_,hjv,h1 _ (zd _),hv j hjl _ hjv,?_⟩;simp only[aw,if_true,World.cell?,hnew];simp[show j<vs.length by omega]
 refine⟨hg.fr,hg.ok,h.nt,λp x hp=>?_,λb j x hp=>?_,λb ds hb=>?_,λb ds hb=>?_,λb b' ds ds' hb hb' e=>?_,λp z l hp=>?_,h.clinj,λp B hB b ds hb=>?_,hg.cllt,h.lo,by rw[hlen];exact Nat.le_succ_of_le h.len,λb hb=>by simp only;rw[if_neg (by have:=h.len;omega)];exact h.sig b hb,hg.sp.step (Hp.le_refl _) (λb hb=>by simp only;rw[if_neg (by omega)]) (λ_ _ k=>dq hlb k) (λ_ _ k _=>k) (λ_ _ _ _ p k=>⟨p,k⟩) (λ_ k=>k)⟩
 .simp only[hlen];rcases hatold p x hp with ⟨j,rfl,hj⟩|⟨hp',_⟩
  .obtain ⟨v,_,_,h3,h4⟩:=hvalnew j x hj;rw[h4,h3.cr];exact h3.mono (Hp.le_refl _) (Nat.le_succ _) hsig
  .rw [hvalold p x hp'];exact(hg.val p x hp').mono (Hp.le_refl _) (Nat.le_succ _) hsig
 .rcases hatold _ x hp with ⟨j',e,hj⟩|⟨hp',_⟩
  .cases e;obtain⟨v,_,h2,_,h4⟩:=hvalnew j x hj;rw[h4];exact h2
  .rw [hvalold _ x hp'];exact hg.one b j x hp'
 .rcases hold b ds hb with ⟨rfl,rfl⟩|⟨hlt,hb'⟩
  .exact ⟨vs.toArray,T,by simp only[if_true];exact hnew,by simpa using hl⟩
  .simp only;rw[if_neg (by omega)];exact hg.box b ds hb'
 .rcases hold b ds hb with ⟨rfl,rfl⟩|⟨hlt,hb'⟩
  .simp only[if_true];refine⟨λo=>?_,.inr h.fr.size⟩
   cases hq:G.M w.heap.size o with
   |none=>rfl
   |some v=>exact absurd (Hp.lt h.ok hq) (by omega)
  .simp only;rw[if_neg (by omega)];exact hg.bmem b ds hb'
 .simp only at e;rcases hold b ds hb with ⟨rfl,rfl⟩|⟨hlt,hb1⟩<;>rcases hold b' ds' hb' with ⟨rfl,rfl⟩|⟨hlt',hb1'⟩
  .rfl
  .rw [if_pos rfl,if_neg (by omega)] at e
   exact absurd (h.blt hb1') (by omega)
  .rw [if_pos rfl,if_neg (by omega)] at e
   exact absurd (h.blt hb1) (by omega)
  .rw [if_neg (by omega),if_neg (by omega)] at e
   exact h.inj b b' ds ds' hb1 hb1' e
 .rcases hatold _ _ hp with ⟨j,rfl,hj⟩|⟨hp',_⟩
  .obtain ⟨v,_,_,h3,_⟩:=hvalnew j _ hj;have:=h3.cr;simp[AV.aG] at this
  .rw [hvalold p _ hp'];exact hg.own p z l hp'
 .rcases hold b ds hb with ⟨rfl,rfl⟩|⟨hlt,hb'⟩
  .simp only[if_true];have:=(h.cllt p B hB).1;omega
  .simp only;rw[if_neg (by omega)];exact h.clbox p B hB b ds hb'
theorem RS.Kx{E:Entry}{G:Gh}{s:St}{a:Act}{w:World}(h:RS E G s a w)(cs:List AV)(vs:List Value)(T:TypeId)(hl:vs.length=cs.length)(h1:∀v∈vs,v.oneCell'=true)
  (hv:∀j (hj:j<cs.length) v,vs[j]? =some v->RV G.M G.σ s.bs.length cs[j] v):
  RS E {G with σ:=λb=>if b=s.bs.length then w.heap.size else G.σ b} ⟨s.env,s.bs++[.cells cs],s.lo⟩ a (w.alloc (.cells vs.toArray T)):=
 h.nV (.cells cs) cs rfl (λds e=>by cases e;rfl) vs T (by omega) h1 hv
def St.gj(s:St)(cs:List AV):St:=⟨s.env,s.bs++[.cells cs],s.lo⟩
def F3(s:St)(x:AV)(K:AV->St->Prop):Prop:=req (aW x) (K (.ptr s.bs.length 0) (s.gj x.cells))
theorem EK{P:Program}{s:St}{x:AV}(hx:aW x=true){E:Entry}{G:Gh}{a:Act}{w:World}(hs:RS E G s a w){v:Value}(hv:RV G.M G.σ s.bs.length x v)(t:TypeId):
  ∃G' w',(newVar t v).run P w=.ok ⟨w.heap.size,0,none⟩ w'/\RS E G' (s.gj x.cells) a w'/\RV G'.M G'.σ (s.gj x.cells).bs.length (.ptr s.bs.length 0) (.pointer (some ⟨w.heap.size,0,none⟩)):=by
 obtain⟨h1,h2,h3⟩:=hv.cells hx;have:=hs.Kx x.cells v.cells.toList t h1 h2 h3;refine⟨_,_,?_,this,?_⟩
 .simp [newVar,newRow]
 .have:=RV.ptr (M:=G.M) (σ:=λb=>if b=s.bs.length then w.heap.size else G.σ b) (n:=(s.gj x.cells).bs.length) s.bs.length 0 (by simp[St.gj])
  simpa using this
theorem F2{P:Program}{s:St}{o:Oper}{t:TypeId}{x:Operand}(ho:o.op=.box t x){rx:Opd}(hx:opd x=some rx){K:St->Prop}
  (h:F3 s (s.ev rx) λr s'=>K (s'.put o.dst r)):OpS P o s K:=by
 have hd:∀c,o.op≠.defer c:=λc e=>by rw[ho] at e;cases e
 obtain⟨h1,h2⟩:=af.1 h;refine OpS.val _ _ hd h2 λE G a w hs=>?_;obtain⟨G',w',h3,h4,h5⟩:=EK (P:=P) h1 hs (hs.ev hx) t;refine⟨_,G',w',?_,h4,h5⟩;unfold execOp;simp[ho,Instr.box,h3]
theorem Cw{P:Program}{s:St}{o:Oper}{t:TypeId}(ho:o.op=.alloc t){i:TypeInfo}{z:Value}{x:AV}(hi:P.info? t=some i)(hz:i.zero=some z)(hx:cH z=some x){K:St->Prop}
  (h:F3 s x λr s'=>K (s'.put o.dst r)):OpS P o s K:=by
 have hd:∀c,o.op≠.defer c:=λc e=>by rw[ho] at e;cases e
 obtain⟨h1,h2⟩:=af.1 h;refine OpS.val _ _ hd h2 λE G a w hs=>?_;obtain⟨G',w',h3,h4,h5⟩:=EK (P:=P) h1 hs (.flat (dW hx)) t;refine⟨_,G',w',?_,h4,h5⟩;unfold execOp;simp[ho,Instr.alloc,zeroValue,typeInfo,hi,hz,h3]
theorem RS.setCell{E:Entry}{G:Gh}{s:St}{a:Act}{w:World}(h:RS E G s a w){b j:Nat}{cs:List AV}(hb:aa s.bs b=some cs)(hj:j<cs.length){x:AV}{v:Value}(hx:RV G.M G.σ s.bs.length x v)(h1:v.oneCell'=true):
  RS E G (s.aF b (cs.set j x)) a (w.setCell ⟨G.σ b,j,none⟩ v)/\w.frozen? ⟨G.σ b,j,none⟩=false/\∃u,w.cell? ⟨G.σ b,j,none⟩=some u:=by
 have hblt:=h.blt hb;obtain⟨vs,T,hc,hvl⟩:=h.box b cs hb;obtain⟨hM,hmine⟩:=h.bmem b cs hb;have hat0:s.at (.bx b j)=some cs[j]:=by simp[St.at,hb,hj]
 have hset:s.aF b (cs.set j x)=s.upd (.bx b j) x:=by simp[St.upd,hb]
 have hcell:∃u,w.cell? ⟨G.σ b,j,none⟩=some u:=⟨vs[j]'(by omega),by simp only[World.cell?,hc];simp[show j<vs.size by omega]⟩
 have hother:∀k,k≠G.σ b->(w.setCell ⟨G.σ b,j,none⟩ v).heap[k]? =w.heap[k]?:=λk hk=>Below.heap_setCell _ _ _ _ hk
 have hsame:(w.setCell ⟨G.σ b,j,none⟩ v).heap[G.σ b]? =some (.cells (vs.setIfInBounds j v) T (0,0)):=by
  simp only[World.setCell,Array.getElem?_modify,if_true,hc];rfl
 have hsize:(w.setCell ⟨G.σ b,j,none⟩ v).heap.size=w.heap.size:=by simp[World.setCell]
 have hcl:∀p B,G.cl p=some B->B≠G.σ b:=λp B hB e=>h.clbox p B hB b cs hb e.symm
 have hval:∀p y,s.at p=some y->aw G.σ a (w.setCell ⟨G.σ b,j,none⟩ v) p=if p=.bx b j then v else aw G.σ a w p:=λp y hp=>by
  cases p with
  |sl t=>simp[aw]
  |bx b' j'=>
   simp only[St.at] at hp
   cases hb':aa s.bs b' with
   |none=>rw[hb'] at hp;cases hp
   |some ds=>
    simp only[aw];rw[uF]
    by_cases e:b'=b
    .subst e
     by_cases e2:j'=j
     .subst e2;obtain⟨u,hu⟩:=hcell;simp[hu]
     .rw [if_neg (by simpa using λe=>e2 e.symm),if_neg (by simpa using e2)]
    .rw [if_neg (λh'=>e (h.inj b' b ds cs hb' hb h'.1.symm)),if_neg (by simp[e])]
 refine⟨?_,?_,hcell⟩
 .rw [hset];have hatu:=λp=>St.eZ s hat0 x p;refine⟨?_,λB o u hu=>?_,h.nt,λp y hp=>?_,λb' j' y hp=>?_,λb' ds hb'=>?_,λb' ds hb'=>?_,λb' b'' ds ds' hb' hb'' e=>?_,λp z l hp=>?_,h.clinj,λp B hB b' ds hb'=>?_,λp B hB=>?_,(St.qg s _ x).trans h.lo,by rw[St.fE];exact h.len,h.sig,h.sp.step (Hp.le_refl _) (λ_ _=>rfl) (λ_ _ k=>St.kv k) (λB o ho hk=>by rw[hother B (λe=>by subst e;rw[hc] at ho;cases ho;cases hk)];exact ho) (λ_ _ _ _ p k=>⟨p,k⟩) (λ_ k=>k) (λ_ _ B _ _ h1 h2=>⟨h1,(hother B (hcl _ B h1)).trans h2,λh3=>h3⟩)⟩
  .refine ⟨h.fr.os,h.fr.tape,h.fr.output,by rw[hsize];exact h.fr.size,h.fr.le,λB hB hn=>?_,h.fr.mem,h.fr.kn.keep (hother _ (h.fr.kn.ne hM))⟩
   rw[hother B (λe=>?_)]
   .exact h.fr.heap B hB hn
   .subst e;rcases hmine with hm|hm
    .exact hn hm
    .omega
  .have:=h.ok _ _ _ hu;show (w.setCell _ v).cell? _=some u;rw[uF,if_neg (λe=>by rw[<-e.1] at hu;rw[hM] at hu;cases hu)]
   exact this
  .rw [St.fE];rw[hatu] at hp
   by_cases e:p=.bx b j
   .rw [if_pos e] at hp;cases hp;rw[hval p _ (e▸hat0),if_pos e,hx.cr];exact hx
   .rw [if_neg e] at hp;rw[hval p y hp,if_neg e];exact h.val p y hp
  .rw [hatu] at hp
   by_cases e:Pl.bx b' j'=.bx b j
   .rw [hval _ _ (e▸hat0),if_pos e];exact h1
   .rw [if_neg e] at hp;rw[hval _ y hp,if_neg e];exact h.one b' j' y hp
  .obtain ⟨es,h2,h3⟩:=s.bt _ x b' ds hb'
   by_cases e:b'=b
   .subst e;rw[hb] at h2;cases h2;exact⟨_,T,hsame,by simp;omega⟩
   .obtain ⟨us,T',h4,h5⟩:=h.box b' es h2;exact⟨us,T',by rw[hother _ (λe2=>e (h.inj b' b es cs h2 hb e2))];exact h4,by omega⟩
  .obtain ⟨es,h2,h3⟩:=s.bt _ x b' ds hb';exact h.bmem b' es h2
  .obtain ⟨es,h2,_⟩:=s.bt _ x b' ds hb';obtain⟨es',h2',_⟩:=s.bt _ x b'' ds' hb'';exact h.inj b' b'' es es' h2 h2' e
  .rw [hatu] at hp
   by_cases e:p=.bx b j
   .rw [if_pos e] at hp;cases hp;have:=hx.cr;simp[AV.aG] at this
   .rw [if_neg e] at hp;obtain⟨ad,k,h2,hz,h3⟩:=h.own p z l hp;refine⟨ad,k,by rw[hval p _ hp,if_neg e];exact h2,hz,?_⟩
    rcases h3 with h3|⟨B,hB,h4,h5⟩
    .exact .inl h3
    .obtain ⟨us,T',h6,h7⟩:=h5.cells;exact .inr ⟨B,hB,h4,h5.lt,⟨us,T',by rw[hother B (hcl p B hB)];exact h6,h7⟩,h5.free,h5.mine⟩
  .obtain ⟨es,h2,_⟩:=s.bt _ x b' ds hb';exact h.clbox p B hB b' es h2
  .obtain ⟨h2,h3⟩:=h.cllt p B hB;exact⟨by rw[hsize];exact h2,h3⟩
 .simp only[World.frozen?,hc];simp
def setAt(xs:List AV):Nat->List AV->List AV
 |_,[]=>xs
 |o,c::cs=>setAt (xs.set o c) (o+1) cs
theorem aQ:∀(cs xs:List AV) (o:Nat),(setAt xs o cs).length=xs.length
 |[],_,_=>rfl
 |c::cs,xs,o=>by rw[setAt,aQ cs,zn]
theorem St.CS(s:St)(b:Nat)(xs ys:List AV):(s.aF b xs).aF b ys=s.aF b ys:=by
 simp[St.aF]
theorem c8{P:Program}{E:Entry}{G:Gh}{a:Act}:∀(us:List Value) (xs:List AV) (s:St) (w:World) (b off i:Nat) (cs:List AV),RS E G s a w->aa s.bs b=some cs->off+i+xs.length<=cs.length->us.length=xs.length->(∀u∈us,u.oneCell'=true)->
  (∀j (hj:j<xs.length) u,us[j]? =some u->RV G.M G.σ s.bs.length xs[j] u)->∃w',(storeCells ⟨G.σ b,off,none⟩ us i).run P w=.ok () w'/\RS E G (s.aF b (setAt cs (off+i) xs)) a w'
 |[],[],s,w,b,off,i,cs,h,hb,_,_,_,_=>by
  refine⟨w,rfl,?_⟩;have hlt:=aB hb;refine h.nU (bs':=s.bs.set b (.cells cs)) (λc=>?_) (λc=>?_) (by simp)
  .rw [aS hb];split
   .rename_i e;rw[e,hb]
   .rfl
  .simp only[ag,zr]
   by_cases e:b=c
   .subst e;simp only[aa] at hb;rw[if_pos rfl,if_pos hlt]
    cases hx:s.bs[b]? with
    |none=>rw[hx] at hb;cases hb
    |some y=>
     rw[hx] at hb;cases y<;>first|rfl|cases hb
   .rw [if_neg e]
 |u::us,x::xs,s,w,b,off,i,cs,h,hb,hle,hl,h1,hv=>by
  simp only[zY] at hle hl;obtain⟨h2,h3,v0,h4⟩:=h.setCell hb (j:=off+i) (by omega) (hv 0 (by simp) u rfl) (h1 u (by simp))
  have hb2:aa (s.aF b (cs.set (off+i) x)).bs b=some (cs.set (off+i) x):=by
   simp only[St.aF];rw[aS hb,if_pos rfl]
  obtain⟨w',h5,h6⟩:=c8 us xs _ _ b off (i+1) _ h2 hb2 (by simp;omega) (by omega) (λv hv'=>h1 v (by simp[hv'])) (λj hj v hv'=>by
   have:=hv (j+1) (by simp;omega) v (by simpa using hv')
   simpa[St.aF] using this)
  refine⟨w',?_,?_⟩
  .simp only[storeCells,ya];rw[run_store P w _ u .plain (h1 u (by simp)),bN,h4]
   simp only[h3,Za,if_false,yZ];exact h5
  .rw [St.CS] at h6;rw[setAt]
   rw[Zn];exact h6
 |[],_::_,_,_,_,_,_,_,_,_,_,hl,_,_=>by simp at hl
 |_::_,[],_,_,_,_,_,_,_,_,_,hl,_,_=>by simp at hl
def bQ(n:Nat)(s:St)(p v:AV)(K:St->Prop):Prop:=
 match p with
 |.ptr b off=>match aa s.bs b with
  |some cs=>req (aW v&&(Nat.beq v.cells.length n&&Nat.ble (off+n) cs.length)) (K (s.aF b (setAt cs off v.cells)))
  |none=>False
 |_=>False
theorem jm{P:Program}{s:St}{o:Oper}{t:TypeId}{p x:Operand}(ho:o.op=.store t p x)(hdn:o.dst=none){rp rx:Opd}(hp:opd p=some rp)(hx:opd x=some rx){n:Nat}(hn:dH P t=some n){K:St->Prop}
  (h:bQ n s (s.ev rp) (s.ev rx) K):OpS P o s K:=by
 have hd:∀c,o.op≠.defer c:=λc e=>by rw[ho] at e;cases e
 unfold bQ at h;split at h
 .rename_i b off hpe;split at h
  .rename_i cs hb;obtain⟨h1,h2⟩:=af.1 h;simp only[zD] at h1;obtain⟨hc,hl,hle⟩:=h1;have hl:=zP hl;have hle:=zt hle;refine OpS.skip _ hd hdn h2 λE G a w hs=>?_;have hpv:=hs.ev hp;rw[hpe] at hpv;obtain⟨hpv,_⟩:=hpv.eP;obtain⟨c1,c2,c3⟩:=(hs.ev hx).cells hc;obtain⟨w',h5,h6⟩:=c8 (P:=P) (a.eval x).cells.toList (s.ev rx).cells s w b off 0 cs hs hb (by omega) c1 c2 c3
   refine⟨G,w',?_,h6⟩;have hsz:(a.eval x).cells.size=n:=by rw[<-ZK,c1,hl]
   unfold execOp;simp[ho,Instr.storeAt,hpv,Instr.sureAddr,storeVar,aL hn,hsz,h5]
  .exact h.elim
 .exact h.elim
def nR(n:Nat)(s:St)(b i z off:Nat)(v:AV)(K:St->Prop):Prop:=
 match aa s.bs b with
 |some cs=>(aW v=true/\v.cells.length=n/\0<n/\i*z+off+n<=cs.length)/\K ⟨s.env,s.bs.set b (.row (setAt cs (i*z+off) v.cells)),s.lo⟩
 |none=>False
theorem RS.Lg{E:Entry}{G:Gh}{s:St}{a:Act}{w:World}(h:RS E G s a w){b:Nat}{cs:List AV}(hb:s.bs[b]? =some (.cells cs))(h0:cs≠[]):RS E G ⟨s.env,s.bs.set b (.row cs),s.lo⟩ a w:=by
 have hlt:b<s.bs.length:=(zB.1 hb).1;refine h.nU (λc=>?_) (λc=>?_) (by simp)
 .simp only[aa,zr]
  by_cases e:b=c
  .subst e;rw[if_pos rfl,if_pos hlt,hb]
   cases cs with
   |nil=>exact absurd rfl h0
   |cons c cs=>rfl
  .rw [if_neg e]
 .simp only[ag,zr]
  by_cases e:b=c
  .subst e;rw[if_pos rfl,if_pos hlt,hb];rfl
  .rw [if_neg e]
theorem xC{P:Program}{s:St}{o:Oper}{t:TypeId}{p x:Operand}(ho:o.op=.store t p x)(hdn:o.dst=none){rp rx:Opd}(hp:opd p=some rp)(hx:opd x=some rx){n:Nat}(hn:dH P t=some n){b i z off:Nat}(hpe:s.ev rp=.elp b i z off){K:St->Prop}
  (h:nR n s b i z off (s.ev rx) K):OpS P o s K:=by
 have hd:∀c,o.op≠.defer c:=λc e=>by rw[ho] at e;cases e
 unfold nR at h;split at h
 .rename_i cs hb;obtain⟨⟨hc,hl,h0,hle⟩,h2⟩:=h;refine OpS.skip _ hd hdn h2 λE G a w hs=>?_;have hpv:=hs.ev hp;rw[hpe] at hpv;obtain⟨hpv,_⟩:=hpv.pR;obtain⟨c1,c2,c3⟩:=(hs.ev hx).cells hc;obtain⟨w',h5,h6⟩:=c8 (P:=P) (a.eval x).cells.toList (s.ev rx).cells s w b (i*z+off) 0 cs hs hb (by omega) c1 c2 c3
  have hsz:(a.eval x).cells.size=n:=by rw[<-ZK,c1,hl]
  refine⟨G,w',?_,?_⟩
  .unfold execOp;simp[ho,Instr.storeAt,hpv,Instr.sureAddr,storeVar,aL hn,hsz,h5]
  .have hlt:=aB hb
   have h0':setAt cs (i*z+off) (s.ev rx).cells≠[]:=λe=>by
    have:=congrArg List.length e;rw[aQ] at this;simp only[ZR] at this;omega
   have:=h6.Lg (b:=b) (cs:=setAt cs (i*z+off) (s.ev rx).cells) (by simp[St.aF,hlt]) h0'
   simpa[St.aF] using this
 .exact h.elim
end Go.AM
namespace Go.AM
open Go.CK Go.RowKit
def bc(M:Hp)(B off:Nat)(us:List Value):Hp:=λb o=>if b=B/\off<=o/\o<off+us.length then us[o-off]? else M b o
theorem fR{M:Hp}{B off:Nat}{us:List Value}{j:Nat}{u:Value}(h:us[j]? =some u):bc M B off us B (off+j)=some u:=by
 have hj:j<us.length:=by
  rcases zu j us.length with h1|h1
  .exact h1
  .rw [zS h1] at h;cases h
 unfold bc;rw[if_pos ⟨rfl,by omega,by omega⟩,show off+j-off=j by omega]
 exact h
theorem du{M:Hp}{B off:Nat}{us:List Value}(h:∀o,off<=o->M B o=none):M.le (bc M B off us):=λb o v hv=>by
 simp only[bc];rw[if_neg]
 .exact hv
 .rintro ⟨rfl,h1,_⟩;rw[h o h1] at hv;cases hv
theorem bX{M:Hp}{B off:Nat}{us:List Value}{b:Nat}(h:b≠B)(o:Nat):bc M B off us b o=M b o:=by
 simp only[bc];rw[if_neg (λe=>h e.1)]
theorem mw{M:Hp}{B off:Nat}{us:List Value}{b o:Nat}{v:Value}(h:bc M B off us b o=some v):(b=B/\∃j,o=off+j/\us[j]? =some v)\/M b o=some v:=by
 simp only[bc] at h;split at h
 .rename_i hc;exact .inl ⟨hc.1,o-off,by omega,h⟩
 .exact .inr h
def fh(M:Hp)(sz:Nat)(l:List AV)(us:List Value):Prop:=
 us.length=l.length*sz/\∀i (h:i<l.length),l[i].cells.length=sz/\∀j (hj:j<l[i].cells.length),∃u,us[i*sz+j]? =some u/\u.oneCell'=true/\FV M (l[i].cells[j]) u
theorem fh.nil(M:Hp)(sz:Nat):fh M sz [] []:=⟨by simp,λi hi=>by cases hi⟩
theorem fh.append{M:Hp}{sz:Nat}{l l2:List AV}{us us2:List Value}(h:fh M sz l us)(h2:fh M sz l2 us2):fh M sz (l++l2) (us++us2):=by
 refine⟨by rw[zC,zC,h.1,h2.1,ZN],λi hi=>?_⟩
 by_cases hlt:i<l.length
 .have hmul:(i+1)*sz<=l.length*sz:=ZF _ hlt;rw[ZN,yQ] at hmul;simp only[ZI hlt];obtain⟨a1,a2⟩:=h.2 i hlt;refine⟨a1,λj hj=>?_⟩;obtain⟨u,b1,b2,b3⟩:=a2 j hj;exact⟨u,by rw[zK (by rw[h.1];omega)];exact b1,b2,b3⟩
 .obtain ⟨k,rfl⟩:∃k,i=l.length+k:=⟨i-l.length,by omega⟩
  have hk:k<l2.length:=by simp at hi;omega
  have he:(l++l2)[l.length+k]'hi=l2[k]:=by
   rw[ZZ (by omega)]
   simp
  obtain⟨a1,a2⟩:=h2.2 k hk;rw[he];refine⟨a1,λj hj=>?_⟩;obtain⟨u,b1,b2,b3⟩:=a2 j hj;refine⟨u,?_,b2,b3⟩;rw[ZN,<-h.1,za (by omega),show us.length+k*sz+j-us.length=k*sz+j by omega]
  exact b1
theorem fh.elems{M M':Hp}(hM:M.le M'){sz B off:Nat}{l:List AV}{us:List Value}(h:fh M sz l us)(hu:∀j u,us[j]? =some u->M' B (off+j)=some u):fV M' B off sz l:=λi hi=>by
 obtain⟨a1,a2⟩:=h.2 i hi;refine⟨a1,λj hj=>?_⟩;obtain⟨u,b1,b2,b3⟩:=a2 j hj;exact⟨u,by rw[Zn];exact hu _ _ b1,b2,b3.mono hM⟩
theorem fV.rowOf{M:Hp}{B off sz:Nat}{l:List AV}(h:fV M B off sz l):∃us,fh M sz l us/\∀j u,us[j]? =some u->M B (off+j)=some u:=by
 have hget:∀o,o<l.length*sz->∃u,M B (off+o)=some u:=λo ho=>by
  have hsz:0<sz:=by
   rcases Nat.eq_zero_or_pos sz with h0|h0
   .subst h0;omega
   .exact h0
  have hi:o/sz<l.length:=(Zu hsz).2 ho;have hj:=yX o hsz;obtain⟨a1,a2⟩:=h _ hi;obtain⟨u,b1,_⟩:=a2 (o %sz) (by omega)
  refine⟨u,?_⟩;rw[<-b1,Zn];congr 1;have:=yK o sz;rw[yT] at this;omega
 refine⟨(List.range (l.length*sz)).map λo=>(M B (off+o)).getD undef,⟨by simp,λi hi=>⟨(h i hi).1,λj hj=>?_⟩⟩,λj u hu=>?_⟩
 .obtain ⟨a1,a2⟩:=h i hi;obtain⟨u,b1,b2,b3⟩:=a2 j hj;have hmul:(i+1)*sz<=l.length*sz:=ZF _ hi;rw[ZN,yQ] at hmul;refine⟨u,?_,b2,b3⟩;rw[Zn] at b1;simp[List.getElem?_range (show i*sz+j<l.length*sz by omega),b1]
 .have hj:j<l.length*sz:=by
   rcases zu j (l.length*sz) with h1|h1
   .exact h1
   .rw [zS (by simpa using h1)] at hu;cases hu
  obtain⟨u',hu'⟩:=hget j hj;simp[hj,hu'] at hu;rw[hu',hu]
section
variable{E:Entry}{G:Gh}{s:St}{a:Act}{w:World}{P:Program}
theorem RS.noM(h:RS E G s a w)(o:Nat):G.M w.heap.size o=none:=by
 cases hq:G.M w.heap.size o with
 |none=>rfl
 |some v=>exact absurd (Hp.lt h.ok hq) (by omega)
theorem RS.newRow(h:RS E G s a w)(vs:Array Value)(T:TypeId)(us:List Value)(hp:∀(j:Nat) u,us[j]? =some u->vs[j]? =some u):
  RS E {G with M:=bc G.M w.heap.size 0 us} s a (w.alloc (.cells vs T)):=by
 refine h.grow ⟨rfl,rfl,rfl,by simp,du λo _=>h.noM o,λB hB _=>Below.heap_alloc _ _ _ hB,λB hB _ o=>bX (by omega) o⟩ λb o v hv=>?_
 rcases mw hv with ⟨rfl,j,rfl,hj⟩|hv
 .have hnew:(w.alloc (.cells vs T)).heap[w.heap.size]? =some (.cells vs T (0,0)):=heap_alloc_new w _;simp only[Hp.of,World.cell?,hnew];simpa using hp j v hj
 .exact (Ext.refl w).alloc _|>.cell (h.ok _ _ _ hv)
structure ET(E:Entry)(G:Gh)(s:St)(w:World)(B z n k:Nat)(p:Pl):Prop where
 row:Row E.FP E.w G.M w B z n k
 only:∀q,G.cl q=some B->q=p
 box:∀b cs,aa s.bs b=some cs->G.σ b≠B
 lt:B<w.heap.size
 not:∀z l,s.at p≠some (.sl (.own z) l)
 nl:∀b j,p=.bx b j->ag s.bs b=none
theorem RS.Kl(h:RS E G s a w){d p:Pl}{o:Cap}{l:List AV}{B z k:Nat}(hd:s.at d=some (.sl o l))(hv:aw G.σ a w d=.slice (some ⟨B,0,none⟩) l.length k)(hs:ET E G s w B z l.length k p)(hz:∀y∈l,y.cells.length=z):
  RS E {G with cl:=λr=>if r=d then some B else if r=p then none else G.cl r} (s.upd d (.sl (.own z) l)) a w:=by
 have hvd:=h.val d _ hd
 refine⟨h.fr,h.ok,h.nt,λr u hu=>?_,λb j u hu=>?_,λb cs hb=>?_,λb cs hb=>?_,λb b' cs cs' hb hb' e=>?_,λr z' l' hr=>?_,λr r' B' hr hr'=>?_,λr B' hB' b cs hb=>?_,λr B' hB'=>?_,(St.qg s d _).trans h.lo,by rw[St.fE];exact h.len,h.sig,h.sp.step (Hp.le_refl _) (λ_ _=>rfl) (λ_ _ k=>St.kv k) (λ_ _ k _=>k) (λB' o ho hk r k=>by
  simp only at k
  by_cases e1:r=d
  .rw [if_pos e1] at k;cases k;obtain⟨vs,T,hc,_⟩:=hs.row.cells;rw[hc] at ho;cases ho;cases hk
  .rw [if_neg e1] at k
   by_cases e2:r=p
   .rw [if_pos e2] at k;cases k
   .rw [if_neg e2] at k;exact⟨r,k⟩) (λ_ k=>k) (λb j B' o h1 h2 h3=>⟨by
    have e1:Pl.bx b j≠d:=λe=>by rw[<-e,y8 h1] at hd;cases hd
    have e2:Pl.bx b j≠p:=λe=>by rw[hs.nl b j e.symm] at h1;cases h1
    simp only[if_neg e1,if_neg e2];exact h2,h3,λh4=>h4⟩)⟩
 .rw [St.eZ s hd] at hu;rw[St.fE]
  by_cases hr:r=d
  .rw [if_pos hr] at hu;cases hu;rw[hr];have:=hvd.bG;rw[BO] at this;exact this
  .rw [if_neg hr] at hu;exact h.val r u hu
 .rw [St.eZ s hd] at hu
  by_cases hr:Pl.bx b j=d
  .exact h.one b j _ (hr▸hd)
  .rw [if_neg hr] at hu;exact h.one b j u hu
 .obtain ⟨ds,h1,h2⟩:=s.bt d _ b cs hb;obtain⟨vs,T,h3,h4⟩:=h.box b ds h1;exact⟨vs,T,h3,ZP (by omega) h4⟩
 .obtain ⟨ds,h1,h2⟩:=s.bt d _ b cs hb;exact h.bmem b ds h1
 .obtain ⟨ds,h1,_⟩:=s.bt d _ b cs hb;obtain⟨ds',h1',_⟩:=s.bt d _ b' cs' hb';exact h.inj b b' ds ds' h1 h1' e
 .rw [St.eZ s hd] at hr
  by_cases hrd:r=d
  .rw [if_pos hrd] at hr;cases hr;exact⟨_,k,by rw[hrd];exact hv,hz,.inr ⟨B,by simp[hrd],rfl,hs.row⟩⟩
  .rw [if_neg hrd] at hr;obtain⟨ad,k',h2,hz',h3⟩:=h.own r z' l' hr;refine⟨ad,k',h2,hz',?_⟩;rcases h3 with h3|⟨B',hB',h4,h5⟩
   .exact .inl h3
   .refine .inr ⟨B',?_,h4,h5⟩;have:r≠p:=λe=>hs.not _ _ (e▸hr);simp only[hrd,this,if_false];exact hB'
 .simp only at hr hr'
  by_cases hrd:r=d
  .rw [if_pos hrd] at hr
   by_cases hrd':r'=d
   .rw [hrd,hrd']
   .rw [if_neg hrd'] at hr'
    by_cases hrp':r'=p
    .rw [if_pos hrp'] at hr';cases hr'
    .rw [if_neg hrp'] at hr';cases hr;exact absurd (hs.only _ hr') hrp'
  .rw [if_neg hrd] at hr
   by_cases hrp:r=p
   .rw [if_pos hrp] at hr;cases hr
   .rw [if_neg hrp] at hr
    by_cases hrd':r'=d
    .rw [if_pos hrd'] at hr';cases hr';exact absurd (hs.only _ hr) hrp
    .rw [if_neg hrd'] at hr'
     by_cases hrp':r'=p
     .rw [if_pos hrp'] at hr';cases hr'
     .rw [if_neg hrp'] at hr';exact h.clinj _ _ B' hr hr'
 .obtain ⟨ds,h1,_⟩:=s.bt d _ b cs hb;simp only at hB'
  by_cases hrd:r=d
  .rw [if_pos hrd] at hB';cases hB';exact hs.box b ds h1
  .rw [if_neg hrd] at hB'
   by_cases hrp:r=p
   .rw [if_pos hrp] at hB';cases hB'
   .rw [if_neg hrp] at hB';exact h.clbox r B' hB' b ds h1
 .simp only at hB'
  by_cases hrd:r=d
  .rw [if_pos hrd] at hB';cases hB';exact⟨hs.lt,hs.row.mine⟩
  .rw [if_neg hrd] at hB'
   by_cases hrp:r=p
   .rw [if_pos hrp] at hB';cases hB'
   .rw [if_neg hrp] at hB';exact h.cllt r B' hB'
theorem RS.fill(h:RS E G s a w){B z n k:Nat}{p:Pl}(hs:ET E G s w B z n k p){m:Nat}(us:List Value)(hu:us.length=m*z)(hmk:n+m<=k)(h1:∀u∈us,u.oneCell'=true):
  ∃w',(storeCells (⟨B,n*z,none⟩:Addr) us).run P w=.ok () w'/\RS E {G with M:=bc G.M B (n*z) us} s a w'/\w'.heap.size=w.heap.size/\
   (n+m<k->ET E {G with M:=bc G.M B (n*z) us} s w' B z (n+m) k p):=by
 obtain⟨vs,T,hc,hvs⟩:=hs.row.cells
 have hfit:n*z+us.length<=vs.size:=by
  rw[hu,hvs,<-ZN];exact ZF _ hmk
 have hrun:=run_storeCells_at P B (n*z) T us 0 vs w hc (by simpa using hfit) h1
 simp only[Zi] at hrun;have hnew:=setRow_heap w B vs (vs.toList.take (n*z)++us++vs.toList.drop (n*z+us.length)).toArray T (0,0) hc
 have hother:∀k,k≠B->(w.setRow B (vs.toList.take (n*z)++us++vs.toList.drop (n*z+us.length)).toArray).heap[k]? =w.heap[k]?:=λk hk=>by
  simp only[World.setRow,Array.getElem?_modify];rw[if_neg (Ne.symm hk)]
 have hsize:(w.setRow B (vs.toList.take (n*z)++us++vs.toList.drop (n*z+us.length)).toArray).heap.size=w.heap.size:=by simp[World.setRow]
 have hlen:(vs.toList.take (n*z)++us++vs.toList.drop (n*z+us.length)).length=vs.size:=by
  simp;omega
 have hin:∀(j:Nat) u,us[j]? =some u->(vs.toList.take (n*z)++us++vs.toList.drop (n*z+us.length))[n*z+j]? =some u:=λj u hj=>by
  have hjl:j<us.length:=by
   rcases zu j us.length with h1|h1
   .exact h1
   .rw [zS h1] at hj;cases hj
  rw[zh,za (by simp;omega)]
  simp only[zo,ZK];rw[show n*z+j-min (n*z) vs.size=j by omega,zK hjl];exact hj
 have hout:∀(o:Nat),o<n*z->(vs.toList.take (n*z)++us++vs.toList.drop (n*z+us.length))[o]? =vs[o]?:=λo ho=>by
  rw[zh,zK (by simp;omega),Zd,if_pos ho,Array.getElem?_toList]
 have hval:∀q y,s.at q=some y->aw G.σ a (w.setRow B (vs.toList.take (n*z)++us++vs.toList.drop (n*z+us.length)).toArray) q=aw G.σ a w q:=λq y hq=>by
  cases q with
  |sl t=>rfl
  |bx b j=>
   simp only[St.at] at hq
   cases hb:aa s.bs b with
   |none=>rw[hb] at hq;cases hq
   |some cs=>simp only[aw];rw[bD (hother _ (hs.box b cs hb))]
 have hfree:=hs.row.free;have hMle:G.M.le (bc G.M B (n*z) us):=du hfree
 have hKB:KB≠B:=by
  rcases Nat.eq_zero_or_pos z with h0|h0
  .intro e;obtain⟨T',fz,h1⟩:=h.fr.kn.tb;rw[e,hc] at h1;cases h1;subst h0;simp[KV] at hvs
  .exact h.fr.kn.neR (m:=n*z) hc (by rw[hvs];exact Nat.mul_lt_mul_of_pos_right hs.row.lt h0) (hfree _ (zG _))
 refine⟨_,hrun,?_,hsize,λhlt=>?_⟩
 .refine ⟨?_,λb o v hv=>?_,h.nt,λq y hq=>?_,λb j y hq=>?_,λb cs hb=>?_,λb cs hb=>?_,h.inj,λq z' l' hq=>?_,h.clinj,h.clbox,λq B' hB'=>by rw[hsize];exact h.cllt q B' hB',h.lo,h.len,h.sig,h.sp.step hMle (λ_ _=>rfl) (λ_ _ k=>k) (λB' o ho hk=>by rw[hother B' (λe=>by subst e;rw[hc] at ho;cases ho;cases hk)];exact ho) (λ_ _ _ _ p k=>⟨p,k⟩) (λ_ k=>k) (λb j B' o h1 h2 h3=>by
   have hne:B'≠B:=λe=>by
    have:=hs.nl b j (hs.only _ (e▸h2)).symm;rw[this] at h1;cases h1
   exact⟨h2,(hother B' hne).trans h3,λh4 k=>(bX hne k).trans (h4 k)⟩)⟩
  .refine ⟨h.fr.os,h.fr.tape,h.fr.output,by rw[hsize];exact h.fr.size,Hp.le_trans h.fr.le hMle,λB' hB' hn=>?_,λB' hB' hn o=>?_,(h.fr.kn.mono hMle).keep (hother _ hKB)⟩
   .have:B'≠B:=λe=>by
     subst e;rcases hs.row.mine with h1|h1
     .exact hn h1
     .omega
    rw[hother B' this];exact h.fr.heap B' hB' hn
   .have:B'≠B:=λe=>by
     subst e;rcases hs.row.mine with h1|h1
     .exact hn h1
     .omega
    exact(bX this o).trans (h.fr.mem B' hB' hn o)
  .rcases mw hv with ⟨rfl,j,rfl,hj⟩|hv2
   .simp only[Hp.of,World.cell?,hnew];simp only[Zx,Za,if_false,yW];exact hin j v hj
   .have:=h.ok _ _ _ hv2
    by_cases e:b=B
    .subst e
     have ho:o<n*z:=by
      rcases zu o (n*z) with h1|h1
      .exact h1
      .rw [hfree o h1] at hv2;cases hv2
     simp only[Hp.of,World.cell?,hc] at this;simp only[Hp.of,World.cell?,hnew];simp only[Zx,Za,if_false,yW] at this|-;rw[hout o ho];exact this
    .simp only[Hp.of];rw[bD (hother b e)];exact this
  .rw [hval q y hq];exact(h.val q y hq).mono hMle (zG _) (λ_ _=>rfl)
  .rw [hval _ y hq];exact h.one b j y hq
  .obtain ⟨us',T',h2,h3⟩:=h.box b cs hb;exact⟨us',T',by rw[hother _ (hs.box b cs hb)];exact h2,h3⟩
  .obtain ⟨h2,h3⟩:=h.bmem b cs hb;exact⟨λo=>(bX (hs.box b cs hb) o).trans (h2 o),h3⟩
  .obtain ⟨ad,k',h2,hz',h3⟩:=h.own q z' l' hq;refine⟨ad,k',by rw[hval q _ hq];exact h2,hz',?_⟩
   rcases h3 with h3|⟨B',hB',h4,h5⟩
   .exact .inl h3
   .have hne:B'≠B:=λe=>by
     subst e;have:=hs.only q hB';subst this;exact hs.not _ _ hq
    obtain⟨us',T',h6,h7⟩:=h5.cells;exact .inr ⟨B',hB',h4,h5.lt,⟨us',T',by rw[hother B' hne];exact h6,h7⟩,λo ho=>(bX hne o).trans (h5.free o ho),h5.mine⟩
 .refine ⟨⟨hlt,⟨_,T,hnew,by rw[List.size_toArray,hlen,hvs]⟩,λo ho=>?_,hs.row.mine⟩,hs.only,hs.box,by rw[hsize];exact hs.lt,hs.not,hs.nl⟩
  simp only[bc];rw[if_neg (λe=>by have:=e.2.2;rw[hu,<-ZN] at this;omega)]
  exact hfree o (ZP (ZF _ (yD _ _)) ho)
structure SV(M:Hp)(l:List AV)(sz:Nat)(v:Value)(ad:Option Addr)(k B off:Nat):Prop where
 eq:v=.slice ad l.length k
 cap:l.length<=k
 len:l.length<=lim
 at_:l≠[]->ad=some ⟨B,off,none⟩
 el:fV M B off sz l
theorem RV.sv{M:Hp}{σ:Nat->Nat}{n:Nat}{o:Cap}{l:List AV}{v:Value}(h:RV M σ n (.sl o l) v){sz:Nat}(hz:∀y∈l,y.cells.length=sz):∃ad k B off,SV M l sz v ad k B off:=by
 obtain⟨ad,k,B,off,sz',h1,h2,h3,h4,h5,h6,h7⟩:=h.cq;refine⟨ad,k,B,off,h1,h3,h4,h6,λi hi=>?_⟩;obtain⟨a1,a2⟩:=h7 i hi;have:=hz _ (zd hi);refine⟨this,?_⟩;rw[<-this,a1];exact a2
theorem SV.rv{M:Hp}{σ:Nat->Nat}{n sz:Nat}{o:Cap}{l:List AV}{v:Value}{ad:Option Addr}{k B off:Nat}(h:SV M l sz v ad k B off)(ho:∀z,o≠.own z)(hf:o=.full->k=l.length):RV M σ n (.sl o l) v:=by
 rw[h.eq];exact .flat (.gl ho h.cap h.len hf h.at_ h.el)
theorem SV.row{M:Hp}{l:List AV}{sz:Nat}{v:Value}{ad:Option Addr}{k B off:Nat}(h:SV M l sz v ad k B off)(hok:M.le (Hp.of w)):
  ∃us,fh M sz l us/\(∀u∈us,u.oneCell'=true)/\∀j u,us[j]? =some u->w.cell? ⟨B,off+j,none⟩=some u:=by
 obtain⟨us,h1,h2⟩:=h.el.rowOf;refine⟨us,h1,λu hu=>?_,λj u hj=>hok _ _ _ (h2 j u hj)⟩;obtain⟨o,ho,rfl⟩:=Zc.1 hu
 have hsz:0<sz:=by
  rcases Nat.eq_zero_or_pos sz with h0|h0
  .subst h0;rw[h1.1] at ho;omega
  .exact h0
 rw[h1.1] at ho;have hi:o/sz<l.length:=(Zu hsz).2 ho;obtain⟨a1,a2⟩:=h1.2 _ hi;obtain⟨u,b1,b2,_⟩:=a2 (o %sz) (by rw[a1];exact yX o hsz)
 have he:o/sz*sz+o %sz=o:=by have:=yK o sz;rw[yT] at this;exact this
 rw[he,zA (by rw[h1.1];exact ho)] at b1
 cases b1;exact b2
theorem oL(w:World)(ad:Option Addr)(B off n sz k:Nat)(us:List Value)(hl:us.length=n*sz)(ha:n≠0->ad=some ⟨B,off,none⟩)(hu:∀j u,us[j]? =some u->w.cell? ⟨B,off+j,none⟩=some u):
  (Builtin.firstCells sz n (.slice ad n k)).run P w=.ok us.toArray w\/(n=0/\us=[]/\(Builtin.firstCells sz n (.slice ad n k)).run P w=.ok #[] w):=by
 by_cases h0:n=0
 .subst h0
  have hnil:us=[]:=by
   have:us.length=0:=by rw[hl];simp
   exact ZY.1 this
  refine .inr ⟨rfl,hnil,?_⟩
  cases ad with
  |none=>rfl
  |some b=>simp[Builtin.firstCells,loadCells,loadCellsFrom]
 .refine .inl ?_;rw[ha h0];simp only[Builtin.firstCells];have:=run_loadCells_list (P:=P) w ⟨B,off,none⟩ us (λj v hv=>by rw[bN];exact hu j v hv)
  rw[hl] at this;exact this
theorem bp(w:World){ad:Option Addr}{B off n sz k:Nat}{us:List Value}(hl:us.length=n*sz)(ha:n≠0->ad=some ⟨B,off,none⟩)(hu:∀j u,us[j]? =some u->w.cell? ⟨B,off+j,none⟩=some u):
  (Builtin.firstCells sz n (.slice ad n k)).run P w=.ok us.toArray w:=by
 rcases oL (P:=P) w ad B off n sz k us hl ha hu with h|⟨_,h2,h3⟩
 .exact h
 .rw [h2];exact h3
structure La(P:Program)(t e:TypeId)(sz:Nat):Prop where
 sl:P.underlying t=some (.slice e)
 ex:∃i z,P.info? e=some i/\i.zero=some z/\i.size=sz/\z.cells.size=sz/\i.bytes<=4096
theorem kr{t e sz bytes:Nat}{i:TypeInfo}{z:Value}(ht:P.underlying t=some (.slice e))(hi:P.info? e=some i)(hz:i.zero=some z)(hsz:i.size=sz)(hby:i.bytes=bytes)
  (ty:TypeId) (ad:Option Addr) (n k:Nat) (xa:Option Addr) (m c:Nat) (w:World) (hle:n+m<=glim) (hb:bytes<=4096):
  (Builtin.append_ #[t,t] ty #[.slice ad n k,.slice xa m c]).run P w=
   if n+m<=k then ((Builtin.firstCells sz m (.slice xa m c)).run P w).andThen λnew w1=>
     ((match ad with|some a=>storeCells (a.add (n*sz)) new.toList|none=>Pure.pure ():Sem Unit).run P w1).andThen λ_ w2=>.ok (.slice ad (n+m) k) w2
   else ((Builtin.firstCells sz n (.slice ad n k)).run P w.drew).andThen λold w1=>((Builtin.firstCells sz m (.slice xa m c)).run P w1).andThen λnew w2=>
    .ok (.slice (some ⟨w2.heap.size,0,none⟩) (n+m) (grownCap w (n+m) k e)) (w2.alloc (.cells (old++new++Builtin.zeroCells z.cells (grownCap w (n+m) k e-(n+m))) e)):=by
 subst hsz hby
 by_cases h:n+m<=k
 .rw [if_pos h];cases ad<;>simp[Builtin.append_,run_underlying ht,sizeOf,typeInfo,hi,Builtin.lenOf,h]
 .rw [if_neg h];have h63':¬(9223372036854775807<((n:Int)+(m:Int))):=by ((try unfold glim at hle);(try unfold lim at hle));omega
  have h48':¬(281474976710656<Builtin.nextslicecap (n+m) k*i.bytes):=by
   have h1:=Nat.mul_le_mul hle hb;have:=growslice_fits (need:=n+m) (old:=k) (bytes:=i.bytes) (by omega) (by ((try unfold glim at h1);(try unfold lim at h1));omega)
   omega
  simp[Builtin.append_,run_underlying ht,sizeOf,typeInfo,zeroValue,hi,hz,Builtin.lenOf,h,h63',h48',Question.forced,newRow,grownCap]
end
end Go.AM
