/-
  Texts of this aQ joined (wip/gen/bundle.py),those declarations only that are needed:AmM AmN. By an AI agent.
-/
import Derived.Test.YtahnpgfkkngimaaGreatBab
set_option linter.unusedSimpArgs false
set_option linter.unusedVariables false
namespace Go.AM
open Go.CK Go.RowKit
theorem bQ(B off n:Nat):(⟨B,off,none⟩:Addr).add n=⟨B,off+n,none⟩:=by
 unfold Addr.add;split<;>simp_all
def La:TypeDesc->Bool
 |.struct _|.array _ _=>true
 |_=>false
def aV:AV->Bool
 |.top|.tup _=>false
 |_=>true
section
variable{E:Entry}{G:Gh}{s:St}{a:Act}{w:World}{P:Program}{M:Hp}{σ:Nat->Nat}{n:Nat}
theorem FV.one{x:AV}{v:Value}(h:FV M x v)(ht:aV x=true)(ha:x.isAgg=false):v.oneCell'=true:=by
 cases h<;>first|rfl|(simp[aV] at ht;done)|(simp[AV.isAgg] at ha;done)
theorem RV.one{x:AV}{v:Value}(h:RV M σ n x v)(ht:aV x=true)(ha:x.isAgg=false):v.oneCell'=true:=by
 cases h with
 |flat h=>exact h.one ht ha
 |agg=>simp[AV.isAgg] at ha
 |tup=>simp[aV] at ht
 |_=>rfl
theorem FV.scalar{x:AV}{v:Value}(h:FV M x v)(ht:aV x=true)(ha:x.isAgg=false):v.cells=#[v]:=by
 cases h<;>first|rfl|(simp[aV] at ht;done)|(simp[AV.isAgg] at ha;done)
theorem RV.scalar{x:AV}{v:Value}(h:RV M σ n x v)(ht:aV x=true)(ha:x.isAgg=false):v.cells=#[v]:=by
 cases h with
 |flat h=>exact h.scalar ht ha
 |agg=>simp[AV.isAgg] at ha
 |tup=>simp[aV] at ht
 |_=>rfl
theorem RV.cells{x:AV}{v:Value}(h:RV M σ n x v)(ht:aV x=true):
  v.cells.toList.length=x.cells.length/\(∀u∈v.cells.toList,u.oneCell'=true)/\∀j (hj:j<x.cells.length) u,v.cells.toList[j]? =some u->RV M σ n (x.cells[j]) u:=by
 cases hx:x.isAgg with
 |false=>
  have hc:x.cells=[x]:=by cases x<;>first|rfl|(simp[AV.isAgg] at hx)
  rw[h.scalar ht hx];have h1:=h.one ht hx;refine⟨by rw[hc];rfl,λu hu=>by simp at hu;rw[hu];exact h1,λj hj u hu=>?_⟩
  rw[hc] at hj;obtain rfl:j=0:=by simpa using hj
  simp at hu;subst hu
  simp only[hc,YP];exact h
 |true=>
  cases x with
  |agg cs=>
   obtain⟨vs,rfl,hl,h1,hv⟩:=h.eA
   exact⟨by simpa[Value.cells,AV.cells] using hl,by simpa[Value.cells] using h1,λj hj u hu=>hv j hj u (by simpa[Value.cells] using hu)⟩
  |_=>simp[AV.isAgg] at hx
def St.rd(s:St):AV->Option (List AV)
 |.ept cs=>some cs
 |.ptr b off=>match aa s.bs b with
  |some cs=>some ((cs.drop off).map AV.aF)
  |none=>none
 |.elp b i z off=>match aa s.bs b with
  |some cs=>some ((cs.drop (i*z+off)).map AV.aF)
  |none=>none
 |_=>none
theorem RS.ze(h:RS E G s a w){b:Nat}{cs:List AV}(hb:aa s.bs b=some cs)(j:Nat)(hj:j<cs.length):
  ∃u,w.cell? ⟨G.σ b,j,none⟩=some u/\u.oneCell'=true/\RV G.M G.σ s.bs.length (cs[j]).aF u:=by
 obtain⟨vs,T,h1,h2⟩:=h.box b cs hb
 have hc:w.cell? ⟨G.σ b,j,none⟩=some (vs[j]'(by omega)):=by
  simp only[World.cell?,h1];simp[show j<vs.size by omega]
 have hat:s.at (.bx b j)=some cs[j]:=by simp[St.at,hb,hj]
 have hv:=h.val (.bx b j) _ hat;have h3:=h.one b j _ hat;simp only[al,hc,YR] at hv h3;exact⟨_,hc,h3,hv⟩
theorem RS.rd(h:RS E G s a w){x:AV}{v:Value}(hx:RV G.M G.σ s.bs.length x v){cs:List AV}(hr:s.rd x=some cs):
  ∃B off,v=.pointer (some ⟨B,off,none⟩)/\∀j (hj:j<cs.length),∃u,w.cell? ⟨B,off+j,none⟩=some u/\u.oneCell'=true/\RV G.M G.σ s.bs.length cs[j] u:=by
 cases x<;>first|(cases hr;done)|skip
 case ept ds=>
  cases hr;obtain⟨B,off,rfl,hc⟩:=hx.qg;refine⟨B,off,rfl,λj hj=>?_⟩;obtain⟨u,h1,h2,h3⟩:=hc j hj;exact⟨u,h.ok _ _ _ h1,h2,.flat h3⟩
 case ptr b off=>
  simp only[St.rd] at hr;obtain⟨rfl,hb⟩:=hx.gg
  cases hbc:aa s.bs b with
  |none=>rw[hbc] at hr;cases hr
  |some ds=>
   rw[hbc] at hr;cases hr;refine⟨G.σ b,off,rfl,λj hj=>?_⟩;simp only[ZF,Yf] at hj;obtain⟨u,h1,h2,h3⟩:=h.ze hbc (off+j) (by omega)
   refine⟨u,h1,h2,?_⟩;rw[YA,XI];exact h3
 case elp b i z o=>
  simp only[St.rd] at hr;obtain⟨rfl,hb⟩:=hx.qh
  cases hbc:aa s.bs b with
  |none=>rw[hbc] at hr;cases hr
  |some ds=>
   rw[hbc] at hr;cases hr;refine⟨G.σ b,i*z+o,rfl,λj hj=>?_⟩;simp only[ZF,Yf] at hj;obtain⟨u,h1,h2,h3⟩:=h.ze hbc (i*z+o+j) (by omega)
   refine⟨u,h1,h2,?_⟩;rw[YA,XI];exact h3
def cd(w:World)(B off n:Nat):List Value:=(List.range n).map λj=>(w.cell? ⟨B,off+j,none⟩).getD undef
theorem fM(P:Program)(w:World)(B off n:Nat)(h:∀j,j<n->∃u,w.cell? ⟨B,off+j,none⟩=some u):
  (loadCells ⟨B,off,none⟩ n).run P w=.ok (cd w B off n).toArray w:=by
 have:=run_loadCells_list (P:=P) w ⟨B,off,none⟩ (cd w B off n) (λj v hv=>by
  rw[bQ]
  have hj:j<n:=by
   rcases Zs j n with h1|h1
   .exact h1
   .rw [ZR (by simpa[cd] using h1)] at hv;cases hv
  obtain⟨u,hu⟩:=h j hj;simp[cd,hj,hu] at hv;rw[hu,hv])
 simpa[cd] using this
theorem Ca{t:TypeId}{b:Bool}{d:TypeDesc}(hu:P.underlying t=some d)(hd:La d=b)(w:World):(isAgg t).run P w=.ok b w:=by
 unfold isAgg;rw[Xi,run_underlying hu w];cases d<;>subst hd<;>rfl
theorem aJ{t:TypeId}{k:Nat}(h:(P.info? t).map (·.size)=some k)(w:World):(sizeOf t).run P w=.ok k w:=by
 cases hi:P.info? t with
 |none=>rw[hi] at h;cases h
 |some i=>
  rw[hi] at h;simp only[ZM,ZN] at h;simp[sizeOf,typeInfo,hi,h]
end
def nM(P:Program)(t:TypeId):Option Bool:=(P.underlying t).map La
def dn(P:Program)(t:TypeId):Option Nat:=(P.info? t).map (·.size)
theorem dk{P:Program}{t:TypeId}{b:Bool}(h:nM P t=some b)(w:World):(isAgg t).run P w=.ok b w:=by
 unfold nM at h
 cases hu:P.underlying t with
 |none=>rw[hu] at h;cases h
 |some d=>rw[hu] at h;simp only[ZM,ZN] at h;exact Ca hu h w
def bM(agg:Bool)(n:Nat)(cs:Option (List AV))(K:AV->Prop):Prop:=
 match cs with
 |some cs=>match agg with
  |true=>req (Nat.ble n cs.length) (K (.agg (cs.take n)))
  |false=>match cs with
   |c::_=>K c
   |[]=>False
 |none=>False
theorem ir{P:Program}{s:St}{o:Oper}{t:TypeId}{x:Operand}(ho:o.op=.load t x){rx:Opd}(hx:opd x=some rx){agg:Bool}{n:Nat}(ha:nM P t=some agg)(hn:agg=true->dn P t=some n){K:St->Prop}
  (h:bM agg n (s.rd (s.ev rx)) λr=>K (s.put o.dst r)):OpS P o s K:=by
 have hd:∀c,o.op≠.defer c:=λc e=>by rw[ho] at e;cases e
 unfold bM at h;split at h
 .rename_i cs hcs;split at h
  .obtain ⟨h1,h2⟩:=ae.1 h;have hle:n<=cs.length:=Zr h1;refine OpS.pure _ hd h2 λE G a w hs=>?_;obtain⟨B,off,hv,hc⟩:=hs.rd (hs.ev hx) hcs;have hr:=fM P w B off n (λj hj=>let ⟨u,h,_⟩:=hc j (by omega);⟨u,h⟩)
   refine⟨.agg (cd w B off n).toArray,?_,?_⟩
   .unfold execOp;simp[ho,Instr.loadAt,hv,Instr.sureAddr,loadVar,dk ha,aJ (hn rfl),hr]
   .refine .agg _ _ (by simp[cd];omega) (λu hu=>?_) (λj hj u hu=>?_)
    .simp only[cd,Zk,Zd] at hu;obtain⟨j,hj,rfl⟩:=hu;obtain⟨u,h1,h2,_⟩:=hc j (by omega)
     rw[h1];exact h2
    .simp only[Zn] at hj;obtain⟨u',h1,h2,h3⟩:=hc j (by omega)
     simp[cd,show j<n by omega,h1] at hu
     subst hu;rw[Yv];exact h3
  .split at h
   .rename_i c rest;refine OpS.pure _ hd h λE G a w hs=>?_;obtain⟨B,off,hv,hc⟩:=hs.rd (hs.ev hx) hcs;obtain⟨u,h1,_,h3⟩:=hc 0 (by simp)
    rw[Yi] at h1;refine⟨u,?_,h3⟩;unfold execOp;simp[ho,Instr.loadAt,hv,Instr.sureAddr,loadVar,dk ha,h1]
   .exact h.elim
 .exact h.elim
theorem RS.s6{E:Entry}{G:Gh}{s:St}{a:Act}{w:World}(h:RS E G s a w)(bx:Box)(cs:List AV)(hlb:bx.lb? =none)(hbx:∀ds,bx.cs? =some ds->ds=cs)(vs:List Value)(T:TypeId)(hl:cs.length<=vs.length)(h1:∀v∈vs,v.oneCell'=true)
  (hv:∀j (hj:j<cs.length) v,vs[j]? =some v->RV G.M G.σ s.bs.length cs[j] v):
  RS E {G with σ:=λb=>if b=s.bs.length then w.heap.size else G.σ b} ⟨s.env,s.bs++[bx],s.lo⟩ a (w.alloc (.cells vs.toArray T)):=by
 have hg:RS E G s a (w.alloc (.cells vs.toArray T)):=h.grow (M':=G.M) ⟨rfl,rfl,rfl,by simp,Hp.le_refl _,λB hB _=>Below.heap_alloc _ _ _ hB,λ_ _ _ _=>rfl⟩ (Hp.ext h.ok ((Ext.refl w).alloc _))
 have hsig:∀b,b<s.bs.length->(λb=>if b=s.bs.length then w.heap.size else G.σ b) b=G.σ b:=λb hb=>by simp only;rw[if_neg (by omega)]
 have hlen:(s.bs++[bx]).length=s.bs.length+1:=by simp
 have hnew:(w.alloc (.cells vs.toArray T)).heap[w.heap.size]? =some (.cells vs.toArray T (0,0)):=heap_alloc_new w _
 have hold:∀b ds,aa (s.bs++[bx]) b=some ds->(b=s.bs.length/\ds=cs)\/(b<s.bs.length/\aa s.bs b=some ds):=λb ds hb=>by
  rw[aS] at hb
  by_cases e:b=s.bs.length
  .rw [if_pos e] at hb;exact .inl ⟨e,hbx _ hb⟩
  .rw [if_neg e] at hb;exact .inr ⟨aA hb,hb⟩
 have hatold:∀p x,(⟨s.env,s.bs++[bx],s.lo⟩:St).at p=some x->(∃j,p=.bx s.bs.length j/\cs[j]? =some x)\/(s.at p=some x/\∀j,p≠.bx s.bs.length j):=λp x hp=>by
  cases p with
  |sl t=>exact .inr ⟨hp,λj e=>by cases e⟩
  |bx b j=>
   simp only[St.at] at hp
   cases hb:aa (s.bs++[bx]) b with
   |none=>rw[hb] at hp;cases hp
   |some ds=>
    rw[hb] at hp;simp only[YE] at hp;rcases hold b ds hb with ⟨rfl,rfl⟩|⟨hlt,hb'⟩
    .exact .inl ⟨j,rfl,hp⟩
    .refine .inr ⟨by simp only[St.at,hb',YE];exact hp,λj' e=>?_⟩
     cases e;omega
 have hvalold:∀p x,s.at p=some x->al (λb=>if b=s.bs.length then w.heap.size else G.σ b) a (w.alloc (.cells vs.toArray T)) p=al G.σ a (w.alloc (.cells vs.toArray T)) p:=λp x hp=>by
  cases p with
  |sl t=>rfl
  |bx b j=>
   simp only[St.at] at hp
   cases hb:aa s.bs b with
   |none=>rw[hb] at hp;cases hp
   |some ds=>simp only[al];rw[if_neg (by have:=aA hb;omega)]
 have hvalnew:∀j x,cs[j]? =some x->∃v,vs[j]? =some v/\v.oneCell'=true/\RV G.M G.σ s.bs.length x v/\al (λb=>if b=s.bs.length then w.heap.size else G.σ b) a (w.alloc (.cells vs.toArray T)) (.bx s.bs.length j)=v:=λj x hj=>by
  have hjl:j<cs.length:=by
   rcases Zs j cs.length with h1|h1
   .exact h1
   .rw [ZR h1] at hj;cases hj
  have hjv:vs[j]? =some (vs[j]'(by omega)):=ZA _
  rw[ZA hjl] at hj;cases hj;refine⟨_,hjv,h1 _ (Zc _),hv j hjl _ hjv,?_⟩;simp only[al,if_true,World.cell?,hnew];simp[show j<vs.length by omega]
 refine⟨hg.fr,hg.ok,h.nt,λp x hp=>?_,λb j x hp=>?_,λb ds hb=>?_,λb ds hb=>?_,λb b' ds ds' hb hb' e=>?_,λp z l hp=>?_,h.clinj,λp B hB b ds hb=>?_,hg.cllt,h.lo,by rw[hlen];exact Nat.le_succ_of_le h.len,λb hb=>by simp only;rw[if_neg (by have:=h.len;omega)];exact h.sig b hb,hg.sp.step (Hp.le_refl _) (λb hb=>by simp only;rw[if_neg (by omega)]) (λ_ _ k=>iz hlb k) (λ_ _ k _=>k) (λ_ _ _ _ p k=>⟨p,k⟩) (λ_ k=>k)⟩
 .simp only[hlen];rcases hatold p x hp with ⟨j,rfl,hj⟩|⟨hp',_⟩
  .obtain ⟨v,_,_,h3,h4⟩:=hvalnew j x hj;rw[h4,h3.bP];exact h3.mono (Hp.le_refl _) (Nat.le_succ _) hsig
  .rw [hvalold p x hp'];exact(hg.val p x hp').mono (Hp.le_refl _) (Nat.le_succ _) hsig
 .rcases hatold _ x hp with ⟨j',e,hj⟩|⟨hp',_⟩
  .cases e;obtain⟨v,_,h2,_,h4⟩:=hvalnew j x hj;rw[h4];exact h2
  .rw [hvalold _ x hp'];exact hg.one b j x hp'
 .rcases hold b ds hb with ⟨rfl,rfl⟩|⟨hlt,hb'⟩
  .exact ⟨vs.toArray,T,by simp only[if_true];exact hnew,by simpa using hl⟩
  .simp only;rw[if_neg (by omega)];exact hg.box b ds hb'
 .rcases hold b ds hb with ⟨rfl,rfl⟩|⟨hlt,hb'⟩
  .simp only[if_true];refine⟨λo=>?_,.inr h.fr.size⟩
   cases hq:G.M w.heap.size o with
   |none=>rfl
   |some v=>exact absurd (Hp.lt h.ok hq) (by omega)
  .simp only;rw[if_neg (by omega)];exact hg.bmem b ds hb'
 .simp only at e;rcases hold b ds hb with ⟨rfl,rfl⟩|⟨hlt,hb1⟩<;>rcases hold b' ds' hb' with ⟨rfl,rfl⟩|⟨hlt',hb1'⟩
  .rfl
  .rw [if_pos rfl,if_neg (by omega)] at e
   exact absurd (h.blt hb1') (by omega)
  .rw [if_pos rfl,if_neg (by omega)] at e
   exact absurd (h.blt hb1) (by omega)
  .rw [if_neg (by omega),if_neg (by omega)] at e
   exact h.inj b b' ds ds' hb1 hb1' e
 .rcases hatold _ _ hp with ⟨j,rfl,hj⟩|⟨hp',_⟩
  .obtain ⟨v,_,_,h3,_⟩:=hvalnew j _ hj;have:=h3.bP;simp[AV.aF] at this
  .rw [hvalold p _ hp'];exact hg.own p z l hp'
 .rcases hold b ds hb with ⟨rfl,rfl⟩|⟨hlt,hb'⟩
  .simp only[if_true];have:=(h.cllt p B hB).1;omega
  .simp only;rw[if_neg (by omega)];exact h.clbox p B hB b ds hb'
theorem RS.Kj{E:Entry}{G:Gh}{s:St}{a:Act}{w:World}(h:RS E G s a w)(cs:List AV)(vs:List Value)(T:TypeId)(hl:vs.length=cs.length)(h1:∀v∈vs,v.oneCell'=true)
  (hv:∀j (hj:j<cs.length) v,vs[j]? =some v->RV G.M G.σ s.bs.length cs[j] v):
  RS E {G with σ:=λb=>if b=s.bs.length then w.heap.size else G.σ b} ⟨s.env,s.bs++[.cells cs],s.lo⟩ a (w.alloc (.cells vs.toArray T)):=
 h.s6 (.cells cs) cs rfl (λds e=>by cases e;rfl) vs T (by omega) h1 hv
def St.fL(s:St)(cs:List AV):St:=⟨s.env,s.bs++[.cells cs],s.lo⟩
def Fu(s:St)(x:AV)(K:AV->St->Prop):Prop:=req (aV x) (K (.ptr s.bs.length 0) (s.fL x.cells))
theorem Eb{P:Program}{s:St}{x:AV}(hx:aV x=true){E:Entry}{G:Gh}{a:Act}{w:World}(hs:RS E G s a w){v:Value}(hv:RV G.M G.σ s.bs.length x v)(t:TypeId):
  ∃G' w',(newVar t v).run P w=.ok ⟨w.heap.size,0,none⟩ w'/\RS E G' (s.fL x.cells) a w'/\RV G'.M G'.σ (s.fL x.cells).bs.length (.ptr s.bs.length 0) (.pointer (some ⟨w.heap.size,0,none⟩)):=by
 obtain⟨h1,h2,h3⟩:=hv.cells hx;have:=hs.Kj x.cells v.cells.toList t h1 h2 h3;refine⟨_,_,?_,this,?_⟩
 .simp [newVar,newRow]
 .have:=RV.ptr (M:=G.M) (σ:=λb=>if b=s.bs.length then w.heap.size else G.σ b) (n:=(s.fL x.cells).bs.length) s.bs.length 0 (by simp[St.fL])
  simpa using this
theorem Fs{P:Program}{s:St}{o:Oper}{t:TypeId}{x:Operand}(ho:o.op=.box t x){rx:Opd}(hx:opd x=some rx){K:St->Prop}
  (h:Fu s (s.ev rx) λr s'=>K (s'.put o.dst r)):OpS P o s K:=by
 have hd:∀c,o.op≠.defer c:=λc e=>by rw[ho] at e;cases e
 obtain⟨h1,h2⟩:=ae.1 h;refine OpS.val _ _ hd h2 λE G a w hs=>?_;obtain⟨G',w',h3,h4,h5⟩:=Eb (P:=P) h1 hs (hs.ev hx) t;refine⟨_,G',w',?_,h4,h5⟩;unfold execOp;simp[ho,Instr.box,h3]
theorem BJ{P:Program}{s:St}{o:Oper}{t:TypeId}(ho:o.op=.alloc t){i:TypeInfo}{z:Value}{x:AV}(hi:P.info? t=some i)(hz:i.zero=some z)(hx:dF z=some x){K:St->Prop}
  (h:Fu s x λr s'=>K (s'.put o.dst r)):OpS P o s K:=by
 have hd:∀c,o.op≠.defer c:=λc e=>by rw[ho] at e;cases e
 obtain⟨h1,h2⟩:=ae.1 h;refine OpS.val _ _ hd h2 λE G a w hs=>?_;obtain⟨G',w',h3,h4,h5⟩:=Eb (P:=P) h1 hs (.flat (gq hx)) t;refine⟨_,G',w',?_,h4,h5⟩;unfold execOp;simp[ho,Instr.alloc,zeroValue,typeInfo,hi,hz,h3]
theorem RS.setCell{E:Entry}{G:Gh}{s:St}{a:Act}{w:World}(h:RS E G s a w){b j:Nat}{cs:List AV}(hb:aa s.bs b=some cs)(hj:j<cs.length){x:AV}{v:Value}(hx:RV G.M G.σ s.bs.length x v)(h1:v.oneCell'=true):
  RS E G (s.bh b (cs.set j x)) a (w.setCell ⟨G.σ b,j,none⟩ v)/\w.frozen? ⟨G.σ b,j,none⟩=false/\∃u,w.cell? ⟨G.σ b,j,none⟩=some u:=by
 have hblt:=h.blt hb;obtain⟨vs,T,hc,hvl⟩:=h.box b cs hb;obtain⟨hM,hmine⟩:=h.bmem b cs hb;have hat0:s.at (.bx b j)=some cs[j]:=by simp[St.at,hb,hj]
 have hset:s.bh b (cs.set j x)=s.upd (.bx b j) x:=by simp[St.upd,hb]
 have hcell:∃u,w.cell? ⟨G.σ b,j,none⟩=some u:=⟨vs[j]'(by omega),by simp only[World.cell?,hc];simp[show j<vs.size by omega]⟩
 have hother:∀k,k≠G.σ b->(w.setCell ⟨G.σ b,j,none⟩ v).heap[k]? =w.heap[k]?:=λk hk=>Below.heap_setCell _ _ _ _ hk
 have hsame:(w.setCell ⟨G.σ b,j,none⟩ v).heap[G.σ b]? =some (.cells (vs.setIfInBounds j v) T (0,0)):=by
  simp only[World.setCell,Array.getElem?_modify,if_true,hc];rfl
 have hsize:(w.setCell ⟨G.σ b,j,none⟩ v).heap.size=w.heap.size:=by simp[World.setCell]
 have hcl:∀p B,G.cl p=some B->B≠G.σ b:=λp B hB e=>h.clbox p B hB b cs hb e.symm
 have hval:∀p y,s.at p=some y->al G.σ a (w.setCell ⟨G.σ b,j,none⟩ v) p=if p=.bx b j then v else al G.σ a w p:=λp y hp=>by
  cases p with
  |sl t=>simp[al]
  |bx b' j'=>
   simp only[St.at] at hp
   cases hb':aa s.bs b' with
   |none=>rw[hb'] at hp;cases hp
   |some ds=>
    simp only[al];rw[vd]
    by_cases e:b'=b
    .subst e
     by_cases e2:j'=j
     .subst e2;obtain⟨u,hu⟩:=hcell;simp[hu]
     .rw [if_neg (by simpa using λe=>e2 e.symm),if_neg (by simpa using e2)]
    .rw [if_neg (λh'=>e (h.inj b' b ds cs hb' hb h'.1.symm)),if_neg (by simp[e])]
 refine⟨?_,?_,hcell⟩
 .rw [hset];have hatu:=λp=>St.eK s hat0 x p;refine⟨?_,λB o u hu=>?_,h.nt,λp y hp=>?_,λb' j' y hp=>?_,λb' ds hb'=>?_,λb' ds hb'=>?_,λb' b'' ds ds' hb' hb'' e=>?_,λp z l hp=>?_,h.clinj,λp B hB b' ds hb'=>?_,λp B hB=>?_,(St.qv s _ x).trans h.lo,by rw[St.fe];exact h.len,h.sig,h.sp.step (Hp.le_refl _) (λ_ _=>rfl) (λ_ _ k=>St.jZ k) (λB o ho hk=>by rw[hother B (λe=>by subst e;rw[hc] at ho;cases ho;cases hk)];exact ho) (λ_ _ _ _ p k=>⟨p,k⟩) (λ_ k=>k)⟩
  .refine ⟨h.fr.os,h.fr.tape,h.fr.output,by rw[hsize];exact h.fr.size,h.fr.le,λB hB hn=>?_,h.fr.mem⟩
   rw[hother B (λe=>?_)]
   .exact h.fr.heap B hB hn
   .subst e;rcases hmine with hm|hm
    .exact hn hm
    .omega
  .have:=h.ok _ _ _ hu;show (w.setCell _ v).cell? _=some u;rw[vd,if_neg (λe=>by rw[<-e.1] at hu;rw[hM] at hu;cases hu)]
   exact this
  .rw [St.fe];rw[hatu] at hp
   by_cases e:p=.bx b j
   .rw [if_pos e] at hp;cases hp;rw[hval p _ (e▸hat0),if_pos e,hx.bP];exact hx
   .rw [if_neg e] at hp;rw[hval p y hp,if_neg e];exact h.val p y hp
  .rw [hatu] at hp
   by_cases e:Pl.bx b' j'=.bx b j
   .rw [hval _ _ (e▸hat0),if_pos e];exact h1
   .rw [if_neg e] at hp;rw[hval _ y hp,if_neg e];exact h.one b' j' y hp
  .obtain ⟨es,h2,h3⟩:=s.bn _ x b' ds hb'
   by_cases e:b'=b
   .subst e;rw[hb] at h2;cases h2;exact⟨_,T,hsame,by simp;omega⟩
   .obtain ⟨us,T',h4,h5⟩:=h.box b' es h2;exact⟨us,T',by rw[hother _ (λe2=>e (h.inj b' b es cs h2 hb e2))];exact h4,by omega⟩
  .obtain ⟨es,h2,h3⟩:=s.bn _ x b' ds hb';exact h.bmem b' es h2
  .obtain ⟨es,h2,_⟩:=s.bn _ x b' ds hb';obtain⟨es',h2',_⟩:=s.bn _ x b'' ds' hb'';exact h.inj b' b'' es es' h2 h2' e
  .rw [hatu] at hp
   by_cases e:p=.bx b j
   .rw [if_pos e] at hp;cases hp;have:=hx.bP;simp[AV.aF] at this
   .rw [if_neg e] at hp;obtain⟨ad,k,h2,hz,h3⟩:=h.own p z l hp;refine⟨ad,k,by rw[hval p _ hp,if_neg e];exact h2,hz,?_⟩
    rcases h3 with h3|⟨B,hB,h4,h5⟩
    .exact .inl h3
    .obtain ⟨us,T',h6,h7⟩:=h5.cells;exact .inr ⟨B,hB,h4,h5.lt,⟨us,T',by rw[hother B (hcl p B hB)];exact h6,h7⟩,h5.free,h5.mine⟩
  .obtain ⟨es,h2,_⟩:=s.bn _ x b' ds hb';exact h.clbox p B hB b' es h2
  .obtain ⟨h2,h3⟩:=h.cllt p B hB;exact⟨by rw[hsize];exact h2,h3⟩
 .simp only[World.frozen?,hc];simp
def setAt(xs:List AV):Nat->List AV->List AV
 |_,[]=>xs
 |o,c::cs=>setAt (xs.set o c) (o+1) cs
theorem fS:∀(cs xs:List AV) (o:Nat),(setAt xs o cs).length=xs.length
 |[],_,_=>rfl
 |c::cs,xs,o=>by rw[setAt,fS cs,Zm]
theorem St.B9(s:St)(b:Nat)(xs ys:List AV):(s.bh b xs).bh b ys=s.bh b ys:=by
 simp[St.bh]
theorem dW{P:Program}{E:Entry}{G:Gh}{a:Act}:∀(us:List Value) (xs:List AV) (s:St) (w:World) (b off i:Nat) (cs:List AV),RS E G s a w->aa s.bs b=some cs->off+i+xs.length<=cs.length->us.length=xs.length->(∀u∈us,u.oneCell'=true)->
  (∀j (hj:j<xs.length) u,us[j]? =some u->RV G.M G.σ s.bs.length xs[j] u)->∃w',(storeCells ⟨G.σ b,off,none⟩ us i).run P w=.ok () w'/\RS E G (s.bh b (setAt cs (off+i) xs)) a w'
 |[],[],s,w,b,off,i,cs,h,hb,_,_,_,_=>by
  refine⟨w,rfl,?_⟩;have hlt:=aA hb;refine h.qC (bs':=s.bs.set b (.cells cs)) (λc=>?_) (λc=>?_) (by simp)
  .rw [dj hb];split
   .rename_i e;rw[e,hb]
   .rfl
  .simp only[ag,Zq]
   by_cases e:b=c
   .subst e;simp only[aa] at hb;rw[if_pos rfl,if_pos hlt]
    cases hx:s.bs[b]? with
    |none=>rw[hx] at hb;cases hb
    |some y=>
     rw[hx] at hb;cases y<;>first|rfl|cases hb
   .rw [if_neg e]
 |u::us,x::xs,s,w,b,off,i,cs,h,hb,hle,hl,h1,hv=>by
  simp only[ZX] at hle hl;obtain⟨h2,h3,v0,h4⟩:=h.setCell hb (j:=off+i) (by omega) (hv 0 (by simp) u rfl) (h1 u (by simp))
  have hb2:aa (s.bh b (cs.set (off+i) x)).bs b=some (cs.set (off+i) x):=by
   simp only[St.bh];rw[dj hb,if_pos rfl]
  obtain⟨w',h5,h6⟩:=dW us xs _ _ b off (i+1) _ h2 hb2 (by simp;omega) (by omega) (λv hv'=>h1 v (by simp[hv'])) (λj hj v hv'=>by
   have:=hv (j+1) (by simp;omega) v (by simpa using hv')
   simpa[St.bh] using this)
  refine⟨w',?_,?_⟩
  .simp only[storeCells,Xi];rw[run_store P w _ u .plain (h1 u (by simp)),bQ,h4]
   simp only[h3,YZ,if_false,Xh];exact h5
  .rw [St.B9] at h6;rw[setAt]
   rw[Yo];exact h6
 |[],_::_,_,_,_,_,_,_,_,_,_,hl,_,_=>by simp at hl
 |_::_,[],_,_,_,_,_,_,_,_,_,hl,_,_=>by simp at hl
def bS(n:Nat)(s:St)(p v:AV)(K:St->Prop):Prop:=
 match p with
 |.ptr b off=>match aa s.bs b with
  |some cs=>req (aV v&&(Nat.beq v.cells.length n&&Nat.ble (off+n) cs.length)) (K (s.bh b (setAt cs off v.cells)))
  |none=>False
 |_=>False
theorem iM{P:Program}{s:St}{o:Oper}{t:TypeId}{p x:Operand}(ho:o.op=.store t p x)(hdn:o.dst=none){rp rx:Opd}(hp:opd p=some rp)(hx:opd x=some rx){n:Nat}(hn:dn P t=some n){K:St->Prop}
  (h:bS n s (s.ev rp) (s.ev rx) K):OpS P o s K:=by
 have hd:∀c,o.op≠.defer c:=λc e=>by rw[ho] at e;cases e
 unfold bS at h;split at h
 .rename_i b off hpe;split at h
  .rename_i cs hb;obtain⟨h1,h2⟩:=ae.1 h;simp only[ZD] at h1;obtain⟨hc,hl,hle⟩:=h1;have hl:=ZO hl;have hle:=Zr hle;refine OpS.skip _ hd hdn h2 λE G a w hs=>?_;have hpv:=hs.ev hp;rw[hpe] at hpv;obtain⟨hpv,_⟩:=hpv.gg;obtain⟨c1,c2,c3⟩:=(hs.ev hx).cells hc;obtain⟨w',h5,h6⟩:=dW (P:=P) (a.eval x).cells.toList (s.ev rx).cells s w b off 0 cs hs hb (by omega) c1 c2 c3
   refine⟨G,w',?_,h6⟩;have hsz:(a.eval x).cells.size=n:=by rw[<-YH,c1,hl]
   unfold execOp;simp[ho,Instr.storeAt,hpv,Instr.sureAddr,storeVar,aJ hn,hsz,h5]
  .exact h.elim
 .exact h.elim
def lp(n:Nat)(s:St)(b i z off:Nat)(v:AV)(K:St->Prop):Prop:=
 match aa s.bs b with
 |some cs=>(aV v=true/\v.cells.length=n/\0<n/\i*z+off+n<=cs.length)/\K ⟨s.env,s.bs.set b (.row (setAt cs (i*z+off) v.cells)),s.lo⟩
 |none=>False
theorem RS.KU{E:Entry}{G:Gh}{s:St}{a:Act}{w:World}(h:RS E G s a w){b:Nat}{cs:List AV}(hb:s.bs[b]? =some (.cells cs))(h0:cs≠[]):RS E G ⟨s.env,s.bs.set b (.row cs),s.lo⟩ a w:=by
 have hlt:b<s.bs.length:=(ZB.1 hb).1;refine h.qC (λc=>?_) (λc=>?_) (by simp)
 .simp only[aa,Zq]
  by_cases e:b=c
  .subst e;rw[if_pos rfl,if_pos hlt,hb]
   cases cs with
   |nil=>exact absurd rfl h0
   |cons c cs=>rfl
  .rw [if_neg e]
 .simp only[ag,Zq]
  by_cases e:b=c
  .subst e;rw[if_pos rfl,if_pos hlt,hb];rfl
  .rw [if_neg e]
theorem ym{P:Program}{s:St}{o:Oper}{t:TypeId}{p x:Operand}(ho:o.op=.store t p x)(hdn:o.dst=none){rp rx:Opd}(hp:opd p=some rp)(hx:opd x=some rx){n:Nat}(hn:dn P t=some n){b i z off:Nat}(hpe:s.ev rp=.elp b i z off){K:St->Prop}
  (h:lp n s b i z off (s.ev rx) K):OpS P o s K:=by
 have hd:∀c,o.op≠.defer c:=λc e=>by rw[ho] at e;cases e
 unfold lp at h;split at h
 .rename_i cs hb;obtain⟨⟨hc,hl,h0,hle⟩,h2⟩:=h;refine OpS.skip _ hd hdn h2 λE G a w hs=>?_;have hpv:=hs.ev hp;rw[hpe] at hpv;obtain⟨hpv,_⟩:=hpv.qh;obtain⟨c1,c2,c3⟩:=(hs.ev hx).cells hc;obtain⟨w',h5,h6⟩:=dW (P:=P) (a.eval x).cells.toList (s.ev rx).cells s w b (i*z+off) 0 cs hs hb (by omega) c1 c2 c3
  have hsz:(a.eval x).cells.size=n:=by rw[<-YH,c1,hl]
  refine⟨G,w',?_,?_⟩
  .unfold execOp;simp[ho,Instr.storeAt,hpv,Instr.sureAddr,storeVar,aJ hn,hsz,h5]
  .have hlt:=aA hb
   have h0':setAt cs (i*z+off) (s.ev rx).cells≠[]:=λe=>by
    have:=congrArg List.length e;rw[fS] at this;simp only[YO] at this;omega
   have:=h6.KU (b:=b) (cs:=setAt cs (i*z+off) (s.ev rx).cells) (by simp[St.bh,hlt]) h0'
   simpa[St.bh] using this
 .exact h.elim
end Go.AM
namespace Go.AM
open Go.CK Go.RowKit
def bc(M:Hp)(B off:Nat)(us:List Value):Hp:=λb o=>if b=B/\off<=o/\o<off+us.length then us[o-off]? else M b o
theorem fD{M:Hp}{B off:Nat}{us:List Value}{j:Nat}{u:Value}(h:us[j]? =some u):bc M B off us B (off+j)=some u:=by
 have hj:j<us.length:=by
  rcases Zs j us.length with h1|h1
  .exact h1
  .rw [ZR h1] at h;cases h
 unfold bc;rw[if_pos ⟨rfl,by omega,by omega⟩,show off+j-off=j by omega]
 exact h
theorem db{M:Hp}{B off:Nat}{us:List Value}(h:∀o,off<=o->M B o=none):M.le (bc M B off us):=λb o v hv=>by
 simp only[bc];rw[if_neg]
 .exact hv
 .rintro ⟨rfl,h1,_⟩;rw[h o h1] at hv;cases hv
theorem da{M:Hp}{B off:Nat}{us:List Value}{b:Nat}(h:b≠B)(o:Nat):bc M B off us b o=M b o:=by
 simp only[bc];rw[if_neg (λe=>h e.1)]
theorem l9{M:Hp}{B off:Nat}{us:List Value}{b o:Nat}{v:Value}(h:bc M B off us b o=some v):(b=B/\∃j,o=off+j/\us[j]? =some v)\/M b o=some v:=by
 simp only[bc] at h;split at h
 .rename_i hc;exact .inl ⟨hc.1,o-off,by omega,h⟩
 .exact .inr h
def eS(M:Hp)(sz:Nat)(l:List AV)(us:List Value):Prop:=
 us.length=l.length*sz/\∀i (h:i<l.length),l[i].cells.length=sz/\∀j (hj:j<l[i].cells.length),∃u,us[i*sz+j]? =some u/\u.oneCell'=true/\FV M (l[i].cells[j]) u
theorem eS.nil(M:Hp)(sz:Nat):eS M sz [] []:=⟨by simp,λi hi=>by cases hi⟩
theorem eS.append{M:Hp}{sz:Nat}{l l2:List AV}{us us2:List Value}(h:eS M sz l us)(h2:eS M sz l2 us2):eS M sz (l++l2) (us++us2):=by
 refine⟨by rw[ZC,ZC,h.1,h2.1,YK],λi hi=>?_⟩
 by_cases hlt:i<l.length
 .have hmul:(i+1)*sz<=l.length*sz:=YB _ hlt;rw[YK,XX] at hmul;simp only[YF hlt];obtain⟨a1,a2⟩:=h.2 i hlt;refine⟨a1,λj hj=>?_⟩;obtain⟨u,b1,b2,b3⟩:=a2 j hj;exact⟨u,by rw[ZK (by rw[h.1];omega)];exact b1,b2,b3⟩
 .obtain ⟨k,rfl⟩:∃k,i=l.length+k:=⟨i-l.length,by omega⟩
  have hk:k<l2.length:=by simp at hi;omega
  have he:(l++l2)[l.length+k]'hi=l2[k]:=by
   rw[YX (by omega)]
   simp
  obtain⟨a1,a2⟩:=h2.2 k hk;rw[he];refine⟨a1,λj hj=>?_⟩;obtain⟨u,b1,b2,b3⟩:=a2 j hj;refine⟨u,?_,b2,b3⟩;rw[YK,<-h.1,ZZ (by omega),show us.length+k*sz+j-us.length=k*sz+j by omega]
  exact b1
theorem eS.elems{M M':Hp}(hM:M.le M'){sz B off:Nat}{l:List AV}{us:List Value}(h:eS M sz l us)(hu:∀j u,us[j]? =some u->M' B (off+j)=some u):fO M' B off sz l:=λi hi=>by
 obtain⟨a1,a2⟩:=h.2 i hi;refine⟨a1,λj hj=>?_⟩;obtain⟨u,b1,b2,b3⟩:=a2 j hj;exact⟨u,by rw[Yo];exact hu _ _ b1,b2,b3.mono hM⟩
theorem fO.rowOf{M:Hp}{B off sz:Nat}{l:List AV}(h:fO M B off sz l):∃us,eS M sz l us/\∀j u,us[j]? =some u->M B (off+j)=some u:=by
 have hget:∀o,o<l.length*sz->∃u,M B (off+o)=some u:=λo ho=>by
  have hsz:0<sz:=by
   rcases Nat.eq_zero_or_pos sz with h0|h0
   .subst h0;omega
   .exact h0
  have hi:o/sz<l.length:=(Yy hsz).2 ho;have hj:=Xf o hsz;obtain⟨a1,a2⟩:=h _ hi;obtain⟨u,b1,_⟩:=a2 (o %sz) (by omega)
  refine⟨u,?_⟩;rw[<-b1,Yo];congr 1;have:=XR o sz;rw[Xa] at this;omega
 refine⟨(List.range (l.length*sz)).map λo=>(M B (off+o)).getD undef,⟨by simp,λi hi=>⟨(h i hi).1,λj hj=>?_⟩⟩,λj u hu=>?_⟩
 .obtain ⟨a1,a2⟩:=h i hi;obtain⟨u,b1,b2,b3⟩:=a2 j hj;have hmul:(i+1)*sz<=l.length*sz:=YB _ hi;rw[YK,XX] at hmul;refine⟨u,?_,b2,b3⟩;rw[Yo] at b1;simp[List.getElem?_range (show i*sz+j<l.length*sz by omega),b1]
 .have hj:j<l.length*sz:=by
   rcases Zs j (l.length*sz) with h1|h1
   .exact h1
   .rw [ZR (by simpa using h1)] at hu;cases hu
  obtain⟨u',hu'⟩:=hget j hj;simp[hj,hu'] at hu;rw[hu',hu]
section
variable{E:Entry}{G:Gh}{s:St}{a:Act}{w:World}{P:Program}
theorem RS.noM(h:RS E G s a w)(o:Nat):G.M w.heap.size o=none:=by
 cases hq:G.M w.heap.size o with
 |none=>rfl
 |some v=>exact absurd (Hp.lt h.ok hq) (by omega)
theorem RS.newRow(h:RS E G s a w)(vs:Array Value)(T:TypeId)(us:List Value)(hp:∀(j:Nat) u,us[j]? =some u->vs[j]? =some u):
  RS E {G with M:=bc G.M w.heap.size 0 us} s a (w.alloc (.cells vs T)):=by
 refine h.grow ⟨rfl,rfl,rfl,by simp,db λo _=>h.noM o,λB hB _=>Below.heap_alloc _ _ _ hB,λB hB _ o=>da (by omega) o⟩ λb o v hv=>?_
 rcases l9 hv with ⟨rfl,j,rfl,hj⟩|hv
 .have hnew:(w.alloc (.cells vs T)).heap[w.heap.size]? =some (.cells vs T (0,0)):=heap_alloc_new w _;simp only[Hp.of,World.cell?,hnew];simpa using hp j v hj
 .exact (Ext.refl w).alloc _|>.cell (h.ok _ _ _ hv)
structure Eh(E:Entry)(G:Gh)(s:St)(w:World)(B z n k:Nat)(p:Pl):Prop where
 row:Row E.FP E.w G.M w B z n k
 only:∀q,G.cl q=some B->q=p
 box:∀b cs,aa s.bs b=some cs->G.σ b≠B
 lt:B<w.heap.size
 not:∀z l,s.at p≠some (.sl (.own z) l)
theorem RS.J6(h:RS E G s a w){d p:Pl}{o:Cap}{l:List AV}{B z k:Nat}(hd:s.at d=some (.sl o l))(hv:al G.σ a w d=.slice (some ⟨B,0,none⟩) l.length k)(hs:Eh E G s w B z l.length k p)(hz:∀y∈l,y.cells.length=z):
  RS E {G with cl:=λr=>if r=d then some B else if r=p then none else G.cl r} (s.upd d (.sl (.own z) l)) a w:=by
 have hvd:=h.val d _ hd
 refine⟨h.fr,h.ok,h.nt,λr u hu=>?_,λb j u hu=>?_,λb cs hb=>?_,λb cs hb=>?_,λb b' cs cs' hb hb' e=>?_,λr z' l' hr=>?_,λr r' B' hr hr'=>?_,λr B' hB' b cs hb=>?_,λr B' hB'=>?_,(St.qv s d _).trans h.lo,by rw[St.fe];exact h.len,h.sig,h.sp.step (Hp.le_refl _) (λ_ _=>rfl) (λ_ _ k=>St.jZ k) (λ_ _ k _=>k) (λB' o ho hk r k=>by
  simp only at k
  by_cases e1:r=d
  .rw [if_pos e1] at k;cases k;obtain⟨vs,T,hc,_⟩:=hs.row.cells;rw[hc] at ho;cases ho;cases hk
  .rw [if_neg e1] at k
   by_cases e2:r=p
   .rw [if_pos e2] at k;cases k
   .rw [if_neg e2] at k;exact⟨r,k⟩) (λ_ k=>k)⟩
 .rw [St.eK s hd] at hu;rw[St.fe]
  by_cases hr:r=d
  .rw [if_pos hr] at hu;cases hu;rw[hr];have:=hvd.aD;rw[Bf] at this;exact this
  .rw [if_neg hr] at hu;exact h.val r u hu
 .rw [St.eK s hd] at hu
  by_cases hr:Pl.bx b j=d
  .exact h.one b j _ (hr▸hd)
  .rw [if_neg hr] at hu;exact h.one b j u hu
 .obtain ⟨ds,h1,h2⟩:=s.bn d _ b cs hb;obtain⟨vs,T,h3,h4⟩:=h.box b ds h1;exact⟨vs,T,h3,YM (by omega) h4⟩
 .obtain ⟨ds,h1,h2⟩:=s.bn d _ b cs hb;exact h.bmem b ds h1
 .obtain ⟨ds,h1,_⟩:=s.bn d _ b cs hb;obtain⟨ds',h1',_⟩:=s.bn d _ b' cs' hb';exact h.inj b b' ds ds' h1 h1' e
 .rw [St.eK s hd] at hr
  by_cases hrd:r=d
  .rw [if_pos hrd] at hr;cases hr;exact⟨_,k,by rw[hrd];exact hv,hz,.inr ⟨B,by simp[hrd],rfl,hs.row⟩⟩
  .rw [if_neg hrd] at hr;obtain⟨ad,k',h2,hz',h3⟩:=h.own r z' l' hr;refine⟨ad,k',h2,hz',?_⟩;rcases h3 with h3|⟨B',hB',h4,h5⟩
   .exact .inl h3
   .refine .inr ⟨B',?_,h4,h5⟩;have:r≠p:=λe=>hs.not _ _ (e▸hr);simp only[hrd,this,if_false];exact hB'
 .simp only at hr hr'
  by_cases hrd:r=d
  .rw [if_pos hrd] at hr
   by_cases hrd':r'=d
   .rw [hrd,hrd']
   .rw [if_neg hrd'] at hr'
    by_cases hrp':r'=p
    .rw [if_pos hrp'] at hr';cases hr'
    .rw [if_neg hrp'] at hr';cases hr;exact absurd (hs.only _ hr') hrp'
  .rw [if_neg hrd] at hr
   by_cases hrp:r=p
   .rw [if_pos hrp] at hr;cases hr
   .rw [if_neg hrp] at hr
    by_cases hrd':r'=d
    .rw [if_pos hrd'] at hr';cases hr';exact absurd (hs.only _ hr) hrp
    .rw [if_neg hrd'] at hr'
     by_cases hrp':r'=p
     .rw [if_pos hrp'] at hr';cases hr'
     .rw [if_neg hrp'] at hr';exact h.clinj _ _ B' hr hr'
 .obtain ⟨ds,h1,_⟩:=s.bn d _ b cs hb;simp only at hB'
  by_cases hrd:r=d
  .rw [if_pos hrd] at hB';cases hB';exact hs.box b ds h1
  .rw [if_neg hrd] at hB'
   by_cases hrp:r=p
   .rw [if_pos hrp] at hB';cases hB'
   .rw [if_neg hrp] at hB';exact h.clbox r B' hB' b ds h1
 .simp only at hB'
  by_cases hrd:r=d
  .rw [if_pos hrd] at hB';cases hB';exact⟨hs.lt,hs.row.mine⟩
  .rw [if_neg hrd] at hB'
   by_cases hrp:r=p
   .rw [if_pos hrp] at hB';cases hB'
   .rw [if_neg hrp] at hB';exact h.cllt r B' hB'
theorem RS.fill(h:RS E G s a w){B z n k:Nat}{p:Pl}(hs:Eh E G s w B z n k p){m:Nat}(us:List Value)(hu:us.length=m*z)(hmk:n+m<=k)(h1:∀u∈us,u.oneCell'=true):
  ∃w',(storeCells (⟨B,n*z,none⟩:Addr) us).run P w=.ok () w'/\RS E {G with M:=bc G.M B (n*z) us} s a w'/\w'.heap.size=w.heap.size/\
   (n+m<k->Eh E {G with M:=bc G.M B (n*z) us} s w' B z (n+m) k p):=by
 obtain⟨vs,T,hc,hvs⟩:=hs.row.cells
 have hfit:n*z+us.length<=vs.size:=by
  rw[hu,hvs,<-YK];exact YB _ hmk
 have hrun:=run_storeCells_at P B (n*z) T us 0 vs w hc (by simpa using hfit) h1
 simp only[Yi] at hrun;have hnew:=setRow_heap w B vs (vs.toList.take (n*z)++us++vs.toList.drop (n*z+us.length)).toArray T (0,0) hc
 have hother:∀k,k≠B->(w.setRow B (vs.toList.take (n*z)++us++vs.toList.drop (n*z+us.length)).toArray).heap[k]? =w.heap[k]?:=λk hk=>by
  simp only[World.setRow,Array.getElem?_modify];rw[if_neg (Ne.symm hk)]
 have hsize:(w.setRow B (vs.toList.take (n*z)++us++vs.toList.drop (n*z+us.length)).toArray).heap.size=w.heap.size:=by simp[World.setRow]
 have hlen:(vs.toList.take (n*z)++us++vs.toList.drop (n*z+us.length)).length=vs.size:=by
  simp;omega
 have hin:∀(j:Nat) u,us[j]? =some u->(vs.toList.take (n*z)++us++vs.toList.drop (n*z+us.length))[n*z+j]? =some u:=λj u hj=>by
  have hjl:j<us.length:=by
   rcases Zs j us.length with h1|h1
   .exact h1
   .rw [ZR h1] at hj;cases hj
  rw[Zg,ZZ (by simp;omega)]
  simp only[Zn,YH];rw[show n*z+j-min (n*z) vs.size=j by omega,ZK hjl];exact hj
 have hout:∀(o:Nat),o<n*z->(vs.toList.take (n*z)++us++vs.toList.drop (n*z+us.length))[o]? =vs[o]?:=λo ho=>by
  rw[Zg,ZK (by simp;omega),Yc,if_pos ho,Array.getElem?_toList]
 have hval:∀q y,s.at q=some y->al G.σ a (w.setRow B (vs.toList.take (n*z)++us++vs.toList.drop (n*z+us.length)).toArray) q=al G.σ a w q:=λq y hq=>by
  cases q with
  |sl t=>rfl
  |bx b j=>
   simp only[St.at] at hq
   cases hb:aa s.bs b with
   |none=>rw[hb] at hq;cases hq
   |some cs=>simp only[al];rw[bK (hother _ (hs.box b cs hb))]
 have hfree:=hs.row.free;have hMle:G.M.le (bc G.M B (n*z) us):=db hfree;refine⟨_,hrun,?_,hsize,λhlt=>?_⟩
 .refine ⟨?_,λb o v hv=>?_,h.nt,λq y hq=>?_,λb j y hq=>?_,λb cs hb=>?_,λb cs hb=>?_,h.inj,λq z' l' hq=>?_,h.clinj,h.clbox,λq B' hB'=>by rw[hsize];exact h.cllt q B' hB',h.lo,h.len,h.sig,h.sp.step hMle (λ_ _=>rfl) (λ_ _ k=>k) (λB' o ho hk=>by rw[hother B' (λe=>by subst e;rw[hc] at ho;cases ho;cases hk)];exact ho) (λ_ _ _ _ p k=>⟨p,k⟩) (λ_ k=>k)⟩
  .refine ⟨h.fr.os,h.fr.tape,h.fr.output,by rw[hsize];exact h.fr.size,Hp.le_trans h.fr.le hMle,λB' hB' hn=>?_,λB' hB' hn o=>?_⟩
   .have:B'≠B:=λe=>by
     subst e;rcases hs.row.mine with h1|h1
     .exact hn h1
     .omega
    rw[hother B' this];exact h.fr.heap B' hB' hn
   .have:B'≠B:=λe=>by
     subst e;rcases hs.row.mine with h1|h1
     .exact hn h1
     .omega
    exact(da this o).trans (h.fr.mem B' hB' hn o)
  .rcases l9 hv with ⟨rfl,j,rfl,hj⟩|hv2
   .simp only[Hp.of,World.cell?,hnew];simp only[XD,YZ,if_false,Xd];exact hin j v hj
   .have:=h.ok _ _ _ hv2
    by_cases e:b=B
    .subst e
     have ho:o<n*z:=by
      rcases Zs o (n*z) with h1|h1
      .exact h1
      .rw [hfree o h1] at hv2;cases hv2
     simp only[Hp.of,World.cell?,hc] at this;simp only[Hp.of,World.cell?,hnew];simp only[XD,YZ,if_false,Xd] at this|-;rw[hout o ho];exact this
    .simp only[Hp.of];rw[bK (hother b e)];exact this
  .rw [hval q y hq];exact(h.val q y hq).mono hMle (ZG _) (λ_ _=>rfl)
  .rw [hval _ y hq];exact h.one b j y hq
  .obtain ⟨us',T',h2,h3⟩:=h.box b cs hb;exact⟨us',T',by rw[hother _ (hs.box b cs hb)];exact h2,h3⟩
  .obtain ⟨h2,h3⟩:=h.bmem b cs hb;exact⟨λo=>(da (hs.box b cs hb) o).trans (h2 o),h3⟩
  .obtain ⟨ad,k',h2,hz',h3⟩:=h.own q z' l' hq;refine⟨ad,k',by rw[hval q _ hq];exact h2,hz',?_⟩
   rcases h3 with h3|⟨B',hB',h4,h5⟩
   .exact .inl h3
   .have hne:B'≠B:=λe=>by
     subst e;have:=hs.only q hB';subst this;exact hs.not _ _ hq
    obtain⟨us',T',h6,h7⟩:=h5.cells;exact .inr ⟨B',hB',h4,h5.lt,⟨us',T',by rw[hother B' hne];exact h6,h7⟩,λo ho=>(da hne o).trans (h5.free o ho),h5.mine⟩
 .refine ⟨⟨hlt,⟨_,T,hnew,by rw[List.size_toArray,hlen,hvs]⟩,λo ho=>?_,hs.row.mine⟩,hs.only,hs.box,by rw[hsize];exact hs.lt,hs.not⟩
  simp only[bc];rw[if_neg (λe=>by have:=e.2.2;rw[hu,<-YK] at this;omega)]
  exact hfree o (YM (YB _ (XK _ _)) ho)
structure SV(M:Hp)(l:List AV)(sz:Nat)(v:Value)(ad:Option Addr)(k B off:Nat):Prop where
 eq:v=.slice ad l.length k
 cap:l.length<=k
 len:l.length<=lim
 at_:l≠[]->ad=some ⟨B,off,none⟩
 el:fO M B off sz l
theorem RV.sv{M:Hp}{σ:Nat->Nat}{n:Nat}{o:Cap}{l:List AV}{v:Value}(h:RV M σ n (.sl o l) v){sz:Nat}(hz:∀y∈l,y.cells.length=sz):∃ad k B off,SV M l sz v ad k B off:=by
 obtain⟨ad,k,B,off,sz',h1,h2,h3,h4,h5,h6,h7⟩:=h.ez;refine⟨ad,k,B,off,h1,h3,h4,h6,λi hi=>?_⟩;obtain⟨a1,a2⟩:=h7 i hi;have:=hz _ (Zc hi);refine⟨this,?_⟩;rw[<-this,a1];exact a2
theorem SV.rv{M:Hp}{σ:Nat->Nat}{n sz:Nat}{o:Cap}{l:List AV}{v:Value}{ad:Option Addr}{k B off:Nat}(h:SV M l sz v ad k B off)(ho:∀z,o≠.own z)(hf:o=.full->k=l.length):RV M σ n (.sl o l) v:=by
 rw[h.eq];exact .flat (.iT ho h.cap h.len hf h.at_ h.el)
theorem SV.row{M:Hp}{l:List AV}{sz:Nat}{v:Value}{ad:Option Addr}{k B off:Nat}(h:SV M l sz v ad k B off)(hok:M.le (Hp.of w)):
  ∃us,eS M sz l us/\(∀u∈us,u.oneCell'=true)/\∀j u,us[j]? =some u->w.cell? ⟨B,off+j,none⟩=some u:=by
 obtain⟨us,h1,h2⟩:=h.el.rowOf;refine⟨us,h1,λu hu=>?_,λj u hj=>hok _ _ _ (h2 j u hj)⟩;obtain⟨o,ho,rfl⟩:=Yb.1 hu
 have hsz:0<sz:=by
  rcases Nat.eq_zero_or_pos sz with h0|h0
  .subst h0;rw[h1.1] at ho;omega
  .exact h0
 rw[h1.1] at ho;have hi:o/sz<l.length:=(Yy hsz).2 ho;obtain⟨a1,a2⟩:=h1.2 _ hi;obtain⟨u,b1,b2,_⟩:=a2 (o %sz) (by rw[a1];exact Xf o hsz)
 have he:o/sz*sz+o %sz=o:=by have:=XR o sz;rw[Xa] at this;exact this
 rw[he,ZA (by rw[h1.1];exact ho)] at b1
 cases b1;exact b2
theorem oR(w:World)(ad:Option Addr)(B off n sz k:Nat)(us:List Value)(hl:us.length=n*sz)(ha:n≠0->ad=some ⟨B,off,none⟩)(hu:∀j u,us[j]? =some u->w.cell? ⟨B,off+j,none⟩=some u):
  (Builtin.firstCells sz n (.slice ad n k)).run P w=.ok us.toArray w\/(n=0/\us=[]/\(Builtin.firstCells sz n (.slice ad n k)).run P w=.ok #[] w):=by
 by_cases h0:n=0
 .subst h0
  have hnil:us=[]:=by
   have:us.length=0:=by rw[hl];simp
   exact YW.1 this
  refine .inr ⟨rfl,hnil,?_⟩
  cases ad with
  |none=>rfl
  |some b=>simp[Builtin.firstCells,loadCells,loadCellsFrom]
 .refine .inl ?_;rw[ha h0];simp only[Builtin.firstCells];have:=run_loadCells_list (P:=P) w ⟨B,off,none⟩ us (λj v hv=>by rw[bQ];exact hu j v hv)
  rw[hl] at this;exact this
theorem bO(w:World){ad:Option Addr}{B off n sz k:Nat}{us:List Value}(hl:us.length=n*sz)(ha:n≠0->ad=some ⟨B,off,none⟩)(hu:∀j u,us[j]? =some u->w.cell? ⟨B,off+j,none⟩=some u):
  (Builtin.firstCells sz n (.slice ad n k)).run P w=.ok us.toArray w:=by
 rcases oR (P:=P) w ad B off n sz k us hl ha hu with h|⟨_,h2,h3⟩
 .exact h
 .rw [h2];exact h3
structure KP(P:Program)(t e:TypeId)(sz:Nat):Prop where
 sl:P.underlying t=some (.slice e)
 ex:∃i z,P.info? e=some i/\i.zero=some z/\i.size=sz/\z.cells.size=sz/\i.bytes<=4096
theorem oI{t e sz bytes:Nat}{i:TypeInfo}{z:Value}(ht:P.underlying t=some (.slice e))(hi:P.info? e=some i)(hz:i.zero=some z)(hsz:i.size=sz)(hby:i.bytes=bytes)
  (ty:TypeId) (ad:Option Addr) (n k:Nat) (xa:Option Addr) (m c:Nat) (w:World) (hle:n+m<=glim) (hb:bytes<=4096):
  (Builtin.append_ #[t,t] ty #[.slice ad n k,.slice xa m c]).run P w=
   if n+m<=k then ((Builtin.firstCells sz m (.slice xa m c)).run P w).andThen λnew w1=>
     ((match ad with|some a=>storeCells (a.add (n*sz)) new.toList|none=>Pure.pure ():Sem Unit).run P w1).andThen λ_ w2=>.ok (.slice ad (n+m) k) w2
   else ((Builtin.firstCells sz n (.slice ad n k)).run P w.drew).andThen λold w1=>((Builtin.firstCells sz m (.slice xa m c)).run P w1).andThen λnew w2=>
    .ok (.slice (some ⟨w2.heap.size,0,none⟩) (n+m) (grownCap w (n+m) k e)) (w2.alloc (.cells (old++new++Builtin.zeroCells z.cells (grownCap w (n+m) k e-(n+m))) e)):=by
 subst hsz hby
 by_cases h:n+m<=k
 .rw [if_pos h];cases ad<;>simp[Builtin.append_,run_underlying ht,sizeOf,typeInfo,hi,Builtin.lenOf,h]
 .rw [if_neg h];have h63':¬(9223372036854775807<((n:Int)+(m:Int))):=by ((try unfold glim at hle);(try unfold lim at hle));omega
  have h48':¬(281474976710656<Builtin.nextslicecap (n+m) k*i.bytes):=by
   have h1:=Nat.mul_le_mul hle hb;have:=growslice_fits (need:=n+m) (old:=k) (bytes:=i.bytes) (by omega) (by ((try unfold glim at h1);(try unfold lim at h1));omega)
   omega
  simp[Builtin.append_,run_underlying ht,sizeOf,typeInfo,zeroValue,hi,hz,Builtin.lenOf,h,h63',h48',Question.forced,newRow,grownCap]
end
end Go.AM
