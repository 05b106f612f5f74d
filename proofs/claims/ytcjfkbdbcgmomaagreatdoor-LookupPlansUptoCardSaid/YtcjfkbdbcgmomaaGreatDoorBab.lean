/-
  Texts of this bj joined (wip/gen/bundle.py),those declarations only that are needed:AmO AmM. By an AI agent.
-/
import Derived.Test.YtcjfkbdbcgmomaaGreatDoorBaa
import Derived.CallsIn
set_option linter.unusedSimpArgs false
set_option linter.unusedVariables false
namespace Go.AM
open Go.CK Go.RowKit
def F0(rd:Option Nat):Fence:={Fence.wide with round:=rd}
inductive Opd where
 |t (k:Nat)
 |c (x:AV)
deriving Inhabited
def ny:Value->Option AV
 |.bool b=>some (.bool b)
 |.int k n=>some (.int k n)
 |.string s=>if s.size<=lim then some (.str s) else none
 |.pointer none=>some .pz
 |.slice none 0 0=>some (.sl .full [])
 |.map none=>some .nmp
 |.nilFunc=>some .nfn
 |.nilIface=>some .sK
 |_=>none
def nx:List Value->Option (List AV)
 |[]=>some []
 |v::vs=>match ny v,nx vs with
  |some x,some xs=>some (x::xs)
  |_,_=>none
def cO:Value->Option AV
 |.agg cs=>(nx cs.toList).map .agg
 |v=>ny v
theorem Am{M:Hp}{v:Value}{x:AV}(h:ny v=some x):FV M x v/\v.oneCell'=true:=by
 unfold ny at h;split at h<;>first|(cases h;done)|skip
 .cases h;exact⟨.bool _,rfl⟩
 .cases h;exact⟨.int _ _,rfl⟩
 .split at h
  .rename_i hs;cases h;exact⟨.str _ hs,rfl⟩
  .cases h
 .cases h;exact⟨.pz,rfl⟩
 .cases h;exact⟨.sl .full [] none 0 0 0 0 (by simp) (zG _) (by simp) (λ_=>rfl) (by simp) (λi h=>by cases h) (λi h=>by cases h) (λi h=>by cases h),rfl⟩
 .cases h;exact⟨.nmp,rfl⟩
 .cases h;exact⟨.nfn,rfl⟩
 .cases h;exact⟨.sK,rfl⟩
theorem tH{M:Hp}:∀{vs:List Value} {xs:List AV},nx vs=some xs->vs.length=xs.length/\(∀v∈vs,v.oneCell'=true)/\∀j (h:j<xs.length) v,vs[j]? =some v->FV M xs[j] v
 |[],xs,h=>by
  cases h
  exact⟨rfl,(λv hv=>by cases hv),(λj hj=>by cases hj)⟩
 |v::vs,xs,h=>by
  simp only[nx] at h;split at h
  .rename_i x xs' h1 h2;cases h;obtain⟨a1,a2⟩:=Am (M:=M) h1;obtain⟨b1,b2,b3⟩:=tH (M:=M) h2;refine⟨by simp[b1],λu hu=>?_,λj hj u hu=>?_⟩
   .rcases zI.1 hu with rfl|hu
    .exact a2
    .exact b2 u hu
   .cases j with
    |zero=>simp at hu;subst hu;exact a1
    |succ j=>simp at hu;simp at hj;exact b3 j hj u hu
  .cases h
theorem ee{M:Hp}{v:Value}{x:AV}(h:cO v=some x):FV M x v:=by
 unfold cO at h;split at h
 .rename_i cs
  cases hc:nx cs.toList with
  |none=>rw[hc] at h;cases h
  |some xs=>
   rw[hc] at h;cases h;obtain⟨h1,h2,h3⟩:=tH (M:=M) hc;have:=FV.agg xs cs.toList h1 h2 h3;simpa using this
 .exact (Am h).1
def opd:Operand->Option Opd
 |.tmp t=>some (.t t)
 |.const v=>(cO v).map .c
 |.func f=>some (.c (.fn (.func f) [] []))
 |.global _=>none
def St.ev(s:St):Opd->AV
 |.t k=>(s.get k).aF
 |.c x=>x
theorem St.get_at{s:St}{k:Nat}:s.get k=(s.at (.sl k)).getD .top:=by
 simp only[St.get,St.at];cases au s.env k<;>rfl
section
variable{E:Entry}{G:Gh}{s:St}{a:Act}{w:World}{P:Program}
theorem RS.Hv(h:RS E G s a w)(k:Nat):RV G.M G.σ s.bs.length (s.get k).aF (a.tmps.getD k undef):=by
 rw[St.get_at]
 cases hk:s.at (.sl k) with
 |none=>exact .flat (.top _)
 |some x=>exact h.val (.sl k) x hk
theorem RS.ev(h:RS E G s a w){o:Operand}{r:Opd}(ho:opd o=some r):RV G.M G.σ s.bs.length (s.ev r) (a.eval o):=by
 cases o with
 |tmp t=>cases ho;exact h.Hv t
 |const v=>
  simp only[opd] at ho
  cases hv:cO v with
  |none=>rw[hv] at ho;cases ho
  |some x=>rw[hv] at ho;cases ho;exact .flat (ee hv)
 |func f=>cases ho;exact .fn _ [] [] [] [] rfl rfl (λj h=>by cases h) (λj h=>by cases h)
 |global g=>cases ho
end
def bm:List Operand->Option (List Opd)
 |[]=>some []
 |o::os=>match opd o,bm os with
  |some r,some rs=>some (r::rs)
  |_,_=>none
theorem xX:∀{os:List Operand} {rs:List Opd},bm os=some rs->os.length=rs.length/\∀(i:Nat) (o:Operand),os[i]? =some o->∃r,rs[i]? =some r/\opd o=some r
 |[],rs,h=>by cases h;exact⟨rfl,λi o ho=>by cases ho⟩
 |o::os,rs,h=>by
  simp only[bm] at h;split at h
  .rename_i r rs' h1 h2;cases h;obtain⟨h3,h4⟩:=xX h2;refine⟨by simp[h3],λi o' ho=>?_⟩
   cases i with
   |zero=>simp at ho;subst ho;exact⟨r,rfl,h1⟩
   |succ i=>simp at ho;simpa using h4 i o' ho
  .cases h
def OpS(P:Program)(o:Oper)(s:St)(K:St->Prop):Prop:=
 ∀(E:Entry) (G:Gh) (a:Act) (w:World) (rd:Option Nat) (n:Nat) (next:Act->World->Prop) (Q:Exit->Act->World->Prop),RS E G s a w->(∀d,o.dst=some d->d<E.nt)->
  (∀s' G' a' w',K s'->RS E G' s' a' w'->a'.defers=a.defers->next a' w')->o.wpIn (F0 rd) n P a w next Q
theorem put_defers(a:Act)(d:Option Tmp)(v:Value):(a.put d v).defers=a.defers:=by cases d<;>rfl
theorem OpS.val{P:Program}{o:Oper}{s:St}{K:St->Prop}(x:AV)(s':St)(hd:∀c,o.op≠.defer c)(hK:K (s'.put o.dst x))
  (h:∀E G a w,RS E G s a w->∃v G' w',(execOp a.eval o).run P w=.ok (.value v) w'/\RS E G' s' a w'/\RV G'.M G'.σ s'.bs.length x v):OpS P o s K:=by
 intro E G a w rd n next Q hs hdst hnext
 obtain⟨v,G',w',h1,h2,h3⟩:=h E G a w hs;refine⟨λ_ _=>trivial,?_⟩;rw[Oper.semAt_eq _ _ _ hd,h1];exact hnext _ G' _ w' hK (h2.Hg hdst h3) (put_defers _ _ _)
theorem OpS.pure{P:Program}{o:Oper}{s:St}{K:St->Prop}(x:AV)(hd:∀c,o.op≠.defer c)(hK:K (s.put o.dst x))
  (h:∀E G a w,RS E G s a w->∃v,(execOp a.eval o).run P w=.ok (.value v) w/\RV G.M G.σ s.bs.length x v):OpS P o s K:=
 OpS.val x s hd hK λE G a w hs=>let ⟨v,h1,h2⟩:=h E G a w hs;⟨v,G,w,h1,hs,h2⟩
theorem OpS.skip{P:Program}{o:Oper}{s:St}{K:St->Prop}(s':St)(hd:∀c,o.op≠.defer c)(hn:o.dst=none)(hK:K s')
  (h:∀E G a w,RS E G s a w->∃G' w',(execOp a.eval o).run P w=.ok .skip w'/\RS E G' s' a w'):OpS P o s K:=by
 intro E G a w rd n next Q hs hdst hnext
 obtain⟨G',w',h1,h2⟩:=h E G a w hs;refine⟨λ_ _=>trivial,?_⟩;rw[Oper.semAt_eq _ _ _ hd,h1];show next (a.put o.dst undef) w'
 rw[hn];exact hnext s' G' a w' hK h2 rfl
def req(b:Bool)(K:Prop):Prop:=match b with
 |true=>K
 |false=>False
theorem af{b:Bool}{K:Prop}:req b K↔b=true/\K:=by cases b<;>simp[req]
def xe(op:BinOp)(a b:AV)(K:AV->Prop):Prop:=
 match a,b with
 |.int k x,.int k' y=>req (decide (k=k')) (match op with
  |.add=>K (.int k (k.wrap (x+y)))
  |.sub=>K (.int k (k.wrap (x-y)))
  |.mul=>K (.int k (k.wrap (x*y)))
  |.quo=>y≠0/\K (.int k (k.wrap (x.tdiv y)))
  |.rem=>y≠0/\K (.int k (x.tmod y))
  |.eql=>K (.bool (decide (x=y)))
  |.neq=>K (.bool (!decide (x=y)))
  |.lss=>K (.bool (decide (x<y)))
  |.leq=>K (.bool (decide (x<=y)))
  |.gtr=>K (.bool (decide (y<x)))
  |.geq=>K (.bool (decide (y<=x)))
  |_=>False)
 |.str x,.str y=>match op with
  |.add=>x.size+y.size<=lim/\K (.str (x++y))
  |.eql=>K (.bool (decide (x=y)))
  |.neq=>K (.bool (!decide (x=y)))
  |.lss=>K (.bool (Op.bytesLess x.toList y.toList))
  |.leq=>K (.bool (Op.bytesLess x.toList y.toList||decide (x=y)))
  |.gtr=>K (.bool (!(Op.bytesLess x.toList y.toList||decide (x=y))))
  |.geq=>K (.bool (!Op.bytesLess x.toList y.toList))
  |_=>False
 |_,_=>False
theorem bytes_inj{s t:ByteArray}:s.toList=t.toList↔s=t:=by
 rw[ByteArray.toList_eq,ByteArray.toList_eq];exact⟨λh=>ByteArray.ext (Array.toList_inj.mp h),λh=>by rw[h]⟩
theorem rK(x y:ByteArray):(x.toList==y.toList)=decide (x=y):=by
 rw[Bool.eq_iff_iff];simp[bytes_inj]
theorem eI(P:Program)(ρ:Operand->Value)(o:Oper){op:BinOp}{t u:TypeId}{x y:Operand}(ho:o.op=.binOp op t x y u)(w:World)(hx:∀cs,ρ x≠.agg cs)(hn:ρ x≠.nilIface):
  (execOp ρ o).run P w=((binOp op t (ρ x) (ρ y)).run P w).andThen λv w'=>.ok (.value v) w':=by
 have hg:(eqGuard op t x y (ρ x) (ρ y)).run P w=.ok () w:=by
  clear ho;cases op<;>first|rfl|(cases hv:ρ x<;>first|(exact absurd hv (hx _))|(exact absurd hv hn)|(cases ρ y<;>rfl))
 unfold execOp;simp only[ho,yL,hg,yK,yM]
theorem BO{P:Program}{s:St}{o:Oper}{op:BinOp}{t u:TypeId}{x y:Operand}(ho:o.op=.binOp op t x y u){rx ry:Opd}(hx:opd x=some rx)(hy:opd y=some ry){K:St->Prop}
  (h:xe op (s.ev rx) (s.ev ry) λr=>K (s.put o.dst r)):OpS P o s K:=by
 have hd:∀c,o.op≠.defer c:=λc e=>by rw[ho] at e;cases e
 unfold xe at h;split at h
 .rename_i k p k' q e1 e2;obtain⟨hk0,h2⟩:=af.1 h;have hk:=of_decide_eq_true hk0;clear h hk0;subst hk;have h:=h2;clear h2
  have hrun:∀E G a w,RS E G s a w->a.eval x=.int k p/\a.eval y=.int k q:=λE G a w hs=>
   ⟨by have:=hs.ev hx;rw[e1] at this;exact this.aH,by have:=hs.ev hy;rw[e2] at this;exact this.aH⟩
  have fin:∀r v,K (s.put o.dst r)->(∀M,FV M r v)->(∀w,(binOp op t (.int k p) (.int k q)).run P w=.ok v w)->OpS P o s K:=λr v hK hv hr=>
   OpS.pure r hd hK λE G a w hs=>by
    obtain⟨h1,h2⟩:=hrun E G a w hs;refine⟨v,?_,.flat (hv _)⟩;rw[eI P _ o ho w (by rw[h1];simp) (by rw[h1];simp),h1,h2,hr w];rfl
  cases op
  case add=>exact fin _ _ h (λ_=>.int _ _) λw=>by simp[binOp,Op.intArith]
  case sub=>exact fin _ _ h (λ_=>.int _ _) λw=>by simp[binOp,Op.intArith]
  case mul=>exact fin _ _ h (λ_=>.int _ _) λw=>by simp[binOp,Op.intArith]
  case quo=>exact fin _ _ h.2 (λ_=>.int _ _) λw=>by simp[binOp,Op.intDiv,h.1]
  case rem=>exact fin _ _ h.2 (λ_=>.int _ _) λw=>by simp[binOp,Op.intDiv,h.1]
  case eql=>exact fin _ _ h (λ_=>.bool _) λw=>by simp[binOp,Op.intCmp];rfl
  case neq=>exact fin _ _ h (λ_=>.bool _) λw=>by simp[binOp,Op.intCmp];rfl
  case lss=>exact fin _ _ h (λ_=>.bool _) λw=>by simp[binOp,Op.intCmp]
  case leq=>exact fin _ _ h (λ_=>.bool _) λw=>by simp[binOp,Op.intCmp]
  case gtr=>exact fin _ _ h (λ_=>.bool _) λw=>by simp[binOp,Op.intCmp]
  case geq=>exact fin _ _ h (λ_=>.bool _) λw=>by simp[binOp,Op.intCmp]
  all_goals exact h.elim
 .rename_i p q e1 e2
  have hrun:∀E G a w,RS E G s a w->a.eval x=.string p/\a.eval y=.string q:=λE G a w hs=>
   ⟨by have:=hs.ev hx;rw[e1] at this;exact this.cP.1,by have:=hs.ev hy;rw[e2] at this;exact this.cP.1⟩
  have fin:∀r v,K (s.put o.dst r)->(∀M,FV M r v)->(∀w,(binOp op t (.string p) (.string q)).run P w=.ok v w)->OpS P o s K:=λr v hK hv hr=>
   OpS.pure r hd hK λE G a w hs=>by
    obtain⟨h1,h2⟩:=hrun E G a w hs;refine⟨v,?_,.flat (hv _)⟩;rw[eI P _ o ho w (by rw[h1];simp) (by rw[h1];simp),h1,h2,hr w];rfl
  cases op
  case add=>
   refine fin _ _ h.2 (λ_=>.str _ (by have h1:=h.1;rw[ByteArray.size_append];exact h1)) λw=>?_
   have h1:=h.1;have:¬((p.size+q.size:Nat):Int)>IntKind.i64.max:=by unfold lim at h1;simp[IntKind.max,IntKind.signed,IntKind.bits];omega
   simp only[binOp,Op.stringOp,if_neg this,yM]
  case eql=>exact fin _ _ h (λ_=>.bool _) λw=>by simp[binOp,Op.stringOp,rK]
  case neq=>exact fin _ _ h (λ_=>.bool _) λw=>by simp[binOp,Op.stringOp,rK]
  case lss=>exact fin _ _ h (λ_=>.bool _) λw=>by simp[binOp,Op.stringOp]
  case leq=>exact fin _ _ h (λ_=>.bool _) λw=>by simp[binOp,Op.stringOp,rK]
  case gtr=>exact fin _ _ h (λ_=>.bool _) λw=>by simp[binOp,Op.stringOp,rK]
  case geq=>exact fin _ _ h (λ_=>.bool _) λw=>by simp[binOp,Op.stringOp]
  all_goals exact h.elim
 .exact h.elim
end Go.AM
namespace Go.AM
open Go.CK Go.RowKit
theorem bO(B off n:Nat):(⟨B,off,none⟩:Addr).add n=⟨B,off+n,none⟩:=by
 unfold Addr.add;split<;>simp_all
def Ik:TypeDesc->Bool
 |.struct _|.array _ _=>true
 |_=>false
def a8:AV->Bool
 |.top|.tup _=>false
 |_=>true
section
variable{E:Entry}{G:Gh}{s:St}{a:Act}{w:World}{P:Program}{M:Hp}{σ:Nat->Nat}{n:Nat}
theorem FV.one{x:AV}{v:Value}(h:FV M x v)(ht:a8 x=true)(ha:x.isAgg=false):v.oneCell'=true:=by
 cases h<;>first|rfl|(simp[a8] at ht;done)|(simp[AV.isAgg] at ha;done)
theorem RV.one{x:AV}{v:Value}(h:RV M σ n x v)(ht:a8 x=true)(ha:x.isAgg=false):v.oneCell'=true:=by
 cases h with
 |flat h=>exact h.one ht ha
 |agg=>simp[AV.isAgg] at ha
 |tup=>simp[a8] at ht
 |_=>rfl
theorem FV.scalar{x:AV}{v:Value}(h:FV M x v)(ht:a8 x=true)(ha:x.isAgg=false):v.cells=#[v]:=by
 cases h<;>first|rfl|(simp[a8] at ht;done)|(simp[AV.isAgg] at ha;done)
theorem RV.scalar{x:AV}{v:Value}(h:RV M σ n x v)(ht:a8 x=true)(ha:x.isAgg=false):v.cells=#[v]:=by
 cases h with
 |flat h=>exact h.scalar ht ha
 |agg=>simp[AV.isAgg] at ha
 |tup=>simp[a8] at ht
 |_=>rfl
theorem RV.cells{x:AV}{v:Value}(h:RV M σ n x v)(ht:a8 x=true):
  v.cells.toList.length=x.cells.length/\(∀u∈v.cells.toList,u.oneCell'=true)/\∀j (hj:j<x.cells.length) u,v.cells.toList[j]? =some u->RV M σ n (x.cells[j]) u:=by
 cases hx:x.isAgg with
 |false=>
  have hc:x.cells=[x]:=by cases x<;>first|rfl|(simp[AV.isAgg] at hx)
  rw[h.scalar ht hx];have h1:=h.one ht hx;refine⟨by rw[hc];rfl,λu hu=>by simp at hu;rw[hu];exact h1,λj hj u hu=>?_⟩
  rw[hc] at hj;obtain rfl:j=0:=by simpa using hj
  simp at hu;subst hu
  simp only[hc,ZQ];exact h
 |true=>
  cases x with
  |agg cs=>
   obtain⟨vs,rfl,hl,h1,hv⟩:=h.dw
   exact⟨by simpa[Value.cells,AV.cells] using hl,by simpa[Value.cells] using h1,λj hj u hu=>hv j hj u (by simpa[Value.cells] using hu)⟩
  |_=>simp[AV.isAgg] at hx
def St.rd(s:St):AV->Option (List AV)
 |.ept cs=>some cs
 |.ptr b off=>match aa s.bs b with
  |some cs=>some ((cs.drop off).map AV.aF)
  |none=>none
 |.elp b i z off=>match aa s.bs b with
  |some cs=>some ((cs.drop (i*z+off)).map AV.aF)
  |none=>none
 |_=>none
theorem RS.w8(h:RS E G s a w){b:Nat}{cs:List AV}(hb:aa s.bs b=some cs)(j:Nat)(hj:j<cs.length):
  ∃u,w.cell? ⟨G.σ b,j,none⟩=some u/\u.oneCell'=true/\RV G.M G.σ s.bs.length (cs[j]).aF u:=by
 obtain⟨vs,T,h1,h2⟩:=h.box b cs hb
 have hc:w.cell? ⟨G.σ b,j,none⟩=some (vs[j]'(by omega)):=by
  simp only[World.cell?,h1];simp[show j<vs.size by omega]
 have hat:s.at (.bx b j)=some cs[j]:=by simp[St.at,hb,hj]
 have hv:=h.val (.bx b j) _ hat;have h3:=h.one b j _ hat;simp only[ay,hc,ZR] at hv h3;exact⟨_,hc,h3,hv⟩
theorem RS.rd(h:RS E G s a w){x:AV}{v:Value}(hx:RV G.M G.σ s.bs.length x v){cs:List AV}(hr:s.rd x=some cs):
  ∃B off,v=.pointer (some ⟨B,off,none⟩)/\∀j (hj:j<cs.length),∃u,w.cell? ⟨B,off+j,none⟩=some u/\u.oneCell'=true/\RV G.M G.σ s.bs.length cs[j] u:=by
 cases x<;>first|(cases hr;done)|skip
 case ept ds=>
  cases hr;obtain⟨B,off,rfl,hc⟩:=hx.oL;refine⟨B,off,rfl,λj hj=>?_⟩;obtain⟨u,h1,h2,h3⟩:=hc j hj;exact⟨u,h.ok _ _ _ h1,h2,.flat h3⟩
 case ptr b off=>
  simp only[St.rd] at hr;obtain⟨rfl,hb⟩:=hx.iQ
  cases hbc:aa s.bs b with
  |none=>rw[hbc] at hr;cases hr
  |some ds=>
   rw[hbc] at hr;cases hr;refine⟨G.σ b,off,rfl,λj hj=>?_⟩;simp only[zF,Zc] at hj;obtain⟨u,h1,h2,h3⟩:=h.w8 hbc (off+j) (by omega)
   refine⟨u,h1,h2,?_⟩;rw[ZD,Zv];exact h3
 case elp b i z o=>
  simp only[St.rd] at hr;obtain⟨rfl,hb⟩:=hx.oM
  cases hbc:aa s.bs b with
  |none=>rw[hbc] at hr;cases hr
  |some ds=>
   rw[hbc] at hr;cases hr;refine⟨G.σ b,i*z+o,rfl,λj hj=>?_⟩;simp only[zF,Zc] at hj;obtain⟨u,h1,h2,h3⟩:=h.w8 hbc (i*z+o+j) (by omega)
   refine⟨u,h1,h2,?_⟩;rw[ZD,Zv];exact h3
def b9(w:World)(B off n:Nat):List Value:=(List.range n).map λj=>(w.cell? ⟨B,off+j,none⟩).getD undef
theorem fz(P:Program)(w:World)(B off n:Nat)(h:∀j,j<n->∃u,w.cell? ⟨B,off+j,none⟩=some u):
  (loadCells ⟨B,off,none⟩ n).run P w=.ok (b9 w B off n).toArray w:=by
 have:=run_loadCells_list (P:=P) w ⟨B,off,none⟩ (b9 w B off n) (λj v hv=>by
  rw[bO]
  have hj:j<n:=by
   rcases zt j n with h1|h1
   .exact h1
   .rw [zS (by simpa[b9] using h1)] at hv;cases hv
  obtain⟨u,hu⟩:=h j hj;simp[b9,hj,hu] at hv;rw[hu,hv])
 simpa[b9] using this
theorem AZ{t:TypeId}{b:Bool}{d:TypeDesc}(hu:P.underlying t=some d)(hd:Ik d=b)(w:World):(isAgg t).run P w=.ok b w:=by
 unfold isAgg;rw[yL,run_underlying hu w];cases d<;>subst hd<;>rfl
theorem aN{t:TypeId}{k:Nat}(h:(P.info? t).map (·.size)=some k)(w:World):(sizeOf t).run P w=.ok k w:=by
 cases hi:P.info? t with
 |none=>rw[hi] at h;cases h
 |some i=>
  rw[hi] at h;simp only[zM,zO] at h;simp[sizeOf,typeInfo,hi,h]
end
def mI(P:Program)(t:TypeId):Option Bool:=(P.underlying t).map Ik
def dc(P:Program)(t:TypeId):Option Nat:=(P.info? t).map (·.size)
theorem c9{P:Program}{t:TypeId}{b:Bool}(h:mI P t=some b)(w:World):(isAgg t).run P w=.ok b w:=by
 unfold mI at h
 cases hu:P.underlying t with
 |none=>rw[hu] at h;cases h
 |some d=>rw[hu] at h;simp only[zM,zO] at h;exact AZ hu h w
def bR(agg:Bool)(n:Nat)(cs:Option (List AV))(K:AV->Prop):Prop:=
 match cs with
 |some cs=>match agg with
  |true=>req (Nat.ble n cs.length) (K (.agg (cs.take n)))
  |false=>match cs with
   |c::_=>K c
   |[]=>False
 |none=>False
theorem gY{P:Program}{s:St}{o:Oper}{t:TypeId}{x:Operand}(ho:o.op=.load t x){rx:Opd}(hx:opd x=some rx){agg:Bool}{n:Nat}(ha:mI P t=some agg)(hn:agg=true->dc P t=some n){K:St->Prop}
  (h:bR agg n (s.rd (s.ev rx)) λr=>K (s.put o.dst r)):OpS P o s K:=by
 have hd:∀c,o.op≠.defer c:=λc e=>by rw[ho] at e;cases e
 unfold bR at h;split at h
 .rename_i cs hcs;split at h
  .obtain ⟨h1,h2⟩:=af.1 h;have hle:n<=cs.length:=zr h1;refine OpS.pure _ hd h2 λE G a w hs=>?_;obtain⟨B,off,hv,hc⟩:=hs.rd (hs.ev hx) hcs;have hr:=fz P w B off n (λj hj=>let ⟨u,h,_⟩:=hc j (by omega);⟨u,h⟩)
   refine⟨.agg (b9 w B off n).toArray,?_,?_⟩
   .unfold execOp;simp[ho,Instr.loadAt,hv,Instr.sureAddr,loadVar,c9 ha,aN (hn rfl),hr]
   .refine .agg _ _ (by simp[b9];omega) (λu hu=>?_) (λj hj u hu=>?_)
    .simp only[b9,zk,zd] at hu;obtain⟨j,hj,rfl⟩:=hu;obtain⟨u,h1,h2,_⟩:=hc j (by omega)
     rw[h1];exact h2
    .simp only[zn] at hj;obtain⟨u',h1,h2,h3⟩:=hc j (by omega)
     simp[b9,show j<n by omega,h1] at hu
     subst hu;rw[Zl];exact h3
  .split at h
   .rename_i c rest;refine OpS.pure _ hd h λE G a w hs=>?_;obtain⟨B,off,hv,hc⟩:=hs.rd (hs.ev hx) hcs;obtain⟨u,h1,_,h3⟩:=hc 0 (by simp)
    rw[Ze] at h1;refine⟨u,?_,h3⟩;unfold execOp;simp[ho,Instr.loadAt,hv,Instr.sureAddr,loadVar,c9 ha,h1]
   .exact h.elim
 .exact h.elim
theorem RS.oC{E:Entry}{G:Gh}{s:St}{a:Act}{w:World}(h:RS E G s a w)(bx:Box)(cs:List AV)(hlb:bx.lb? =none)(hbx:∀ds,bx.cs? =some ds->ds=cs)(vs:List Value)(T:TypeId)(hl:cs.length<=vs.length)(h1:∀v∈vs,v.oneCell'=true)
  (hv:∀j (hj:j<cs.length) v,vs[j]? =some v->RV G.M G.σ s.bs.length cs[j] v):
  RS E {G with σ:=λb=>if b=s.bs.length then w.heap.size else G.σ b} ⟨s.env,s.bs++[bx],s.lo⟩ a (w.alloc (.cells vs.toArray T)):=by
 have hg:RS E G s a (w.alloc (.cells vs.toArray T)):=h.grow (M':=G.M) ⟨rfl,rfl,rfl,by simp,Hp.le_refl _,λB hB _=>Below.heap_alloc _ _ _ hB,λ_ _ _ _=>rfl⟩ (Hp.ext h.ok ((Ext.refl w).alloc _))
 have hsig:∀b,b<s.bs.length->(λb=>if b=s.bs.length then w.heap.size else G.σ b) b=G.σ b:=λb hb=>by simp only;rw[if_neg (by omega)]
 have hlen:(s.bs++[bx]).length=s.bs.length+1:=by simp
 have hnew:(w.alloc (.cells vs.toArray T)).heap[w.heap.size]? =some (.cells vs.toArray T (0,0)):=heap_alloc_new w _
 have hold:∀b ds,aa (s.bs++[bx]) b=some ds->(b=s.bs.length/\ds=cs)\/(b<s.bs.length/\aa s.bs b=some ds):=λb ds hb=>by
  rw[aI] at hb
  by_cases e:b=s.bs.length
  .rw [if_pos e] at hb;exact .inl ⟨e,hbx _ hb⟩
  .rw [if_neg e] at hb;exact .inr ⟨aC hb,hb⟩
 have hatold:∀p x,(⟨s.env,s.bs++[bx],s.lo⟩:St).at p=some x->(∃j,p=.bx s.bs.length j/\cs[j]? =some x)\/(s.at p=some x/\∀j,p≠.bx s.bs.length j):=λp x hp=>by
  cases p with
  |sl t=>exact .inr ⟨hp,λj e=>by cases e⟩
  |bx b j=>
   simp only[St.at] at hp
   cases hb:aa (s.bs++[bx]) b with
   |none=>rw[hb] at hp;cases hp
   |some ds=>
    rw[hb] at hp;simp only[ZG] at hp;rcases hold b ds hb with ⟨rfl,rfl⟩|⟨hlt,hb'⟩
    .exact .inl ⟨j,rfl,hp⟩
    .refine .inr ⟨by simp only[St.at,hb',ZG];exact hp,λj' e=>?_⟩
     cases e;omega
 have hvalold:∀p x,s.at p=some x->ay (λb=>if b=s.bs.length then w.heap.size else G.σ b) a (w.alloc (.cells vs.toArray T)) p=ay G.σ a (w.alloc (.cells vs.toArray T)) p:=λp x hp=>by
  cases p with
  |sl t=>rfl
  |bx b j=>
   simp only[St.at] at hp
   cases hb:aa s.bs b with
   |none=>rw[hb] at hp;cases hp
   |some ds=>simp only[ay];rw[if_neg (by have:=aC hb;omega)]
 have hvalnew:∀j x,cs[j]? =some x->∃v,vs[j]? =some v/\v.oneCell'=true/\RV G.M G.σ s.bs.length x v/\ay (λb=>if b=s.bs.length then w.heap.size else G.σ b) a (w.alloc (.cells vs.toArray T)) (.bx s.bs.length j)=v:=λj x hj=>by
  have hjl:j<cs.length:=by
   rcases zt j cs.length with h1|h1
   .exact h1
   .rw [zS h1] at hj;cases hj
  have hjv:vs[j]? =some (vs[j]'(by omega)):=zA _
  rw[zA hjl] at hj;cases hj;refine⟨_,hjv,h1 _ (zc _),hv j hjl _ hjv,?_⟩;simp only[ay,if_true,World.cell?,hnew];simp[show j<vs.length by omega]
 refine⟨hg.fr,hg.ok,h.nt,λp x hp=>?_,λb j x hp=>?_,λb ds hb=>?_,λb ds hb=>?_,λb b' ds ds' hb hb' e=>?_,λp z l hp=>?_,h.clinj,λp B hB b ds hb=>?_,hg.cllt,h.lo,by rw[hlen];exact Nat.le_succ_of_le h.len,λb hb=>by simp only;rw[if_neg (by have:=h.len;omega)];exact h.sig b hb,hg.sp.step (Hp.le_refl _) (λb hb=>by simp only;rw[if_neg (by omega)]) (λ_ _ k=>dZ hlb k) (λ_ _ k _=>k) (λ_ _ _ _ p k=>⟨p,k⟩) (λ_ k=>k)⟩
 .simp only[hlen];rcases hatold p x hp with ⟨j,rfl,hj⟩|⟨hp',_⟩
  .obtain ⟨v,_,_,h3,h4⟩:=hvalnew j x hj;rw[h4,h3.b8];exact h3.mono (Hp.le_refl _) (Nat.le_succ _) hsig
  .rw [hvalold p x hp'];exact(hg.val p x hp').mono (Hp.le_refl _) (Nat.le_succ _) hsig
 .rcases hatold _ x hp with ⟨j',e,hj⟩|⟨hp',_⟩
  .cases e;obtain⟨v,_,h2,_,h4⟩:=hvalnew j x hj;rw[h4];exact h2
  .rw [hvalold _ x hp'];exact hg.one b j x hp'
 .rcases hold b ds hb with ⟨rfl,rfl⟩|⟨hlt,hb'⟩
  .exact ⟨vs.toArray,T,by simp only[if_true];exact hnew,by simpa using hl⟩
  .simp only;rw[if_neg (by omega)];exact hg.box b ds hb'
 .rcases hold b ds hb with ⟨rfl,rfl⟩|⟨hlt,hb'⟩
  .simp only[if_true];refine⟨λo=>?_,.inr h.fr.size⟩
   cases hq:G.M w.heap.size o with
   |none=>rfl
   |some v=>exact absurd (Hp.lt h.ok hq) (by omega)
  .simp only;rw[if_neg (by omega)];exact hg.bmem b ds hb'
 .simp only at e;rcases hold b ds hb with ⟨rfl,rfl⟩|⟨hlt,hb1⟩<;>rcases hold b' ds' hb' with ⟨rfl,rfl⟩|⟨hlt',hb1'⟩
  .rfl
  .rw [if_pos rfl,if_neg (by omega)] at e
   exact absurd (h.blt hb1') (by omega)
  .rw [if_pos rfl,if_neg (by omega)] at e
   exact absurd (h.blt hb1) (by omega)
  .rw [if_neg (by omega),if_neg (by omega)] at e
   exact h.inj b b' ds ds' hb1 hb1' e
 .rcases hatold _ _ hp with ⟨j,rfl,hj⟩|⟨hp',_⟩
  .obtain ⟨v,_,_,h3,_⟩:=hvalnew j _ hj;have:=h3.b8;simp[AV.aF] at this
  .rw [hvalold p _ hp'];exact hg.own p z l hp'
 .rcases hold b ds hb with ⟨rfl,rfl⟩|⟨hlt,hb'⟩
  .simp only[if_true];have:=(h.cllt p B hB).1;omega
  .simp only;rw[if_neg (by omega)];exact h.clbox p B hB b ds hb'
theorem RS.Ho{E:Entry}{G:Gh}{s:St}{a:Act}{w:World}(h:RS E G s a w)(cs:List AV)(vs:List Value)(T:TypeId)(hl:vs.length=cs.length)(h1:∀v∈vs,v.oneCell'=true)
  (hv:∀j (hj:j<cs.length) v,vs[j]? =some v->RV G.M G.σ s.bs.length cs[j] v):
  RS E {G with σ:=λb=>if b=s.bs.length then w.heap.size else G.σ b} ⟨s.env,s.bs++[.cells cs],s.lo⟩ a (w.alloc (.cells vs.toArray T)):=
 h.oC (.cells cs) cs rfl (λds e=>by cases e;rfl) vs T (by omega) h1 hv
def St.fw(s:St)(cs:List AV):St:=⟨s.env,s.bs++[.cells cs],s.lo⟩
def DH(s:St)(x:AV)(K:AV->St->Prop):Prop:=req (a8 x) (K (.ptr s.bs.length 0) (s.fw x.cells))
theorem CG{P:Program}{s:St}{x:AV}(hx:a8 x=true){E:Entry}{G:Gh}{a:Act}{w:World}(hs:RS E G s a w){v:Value}(hv:RV G.M G.σ s.bs.length x v)(t:TypeId):
  ∃G' w',(newVar t v).run P w=.ok ⟨w.heap.size,0,none⟩ w'/\RS E G' (s.fw x.cells) a w'/\RV G'.M G'.σ (s.fw x.cells).bs.length (.ptr s.bs.length 0) (.pointer (some ⟨w.heap.size,0,none⟩)):=by
 obtain⟨h1,h2,h3⟩:=hv.cells hx;have:=hs.Ho x.cells v.cells.toList t h1 h2 h3;refine⟨_,_,?_,this,?_⟩
 .simp [newVar,newRow]
 .have:=RV.ptr (M:=G.M) (σ:=λb=>if b=s.bs.length then w.heap.size else G.σ b) (n:=(s.fw x.cells).bs.length) s.bs.length 0 (by simp[St.fw])
  simpa using this
theorem DG{P:Program}{s:St}{o:Oper}{t:TypeId}{x:Operand}(ho:o.op=.box t x){rx:Opd}(hx:opd x=some rx){K:St->Prop}
  (h:DH s (s.ev rx) λr s'=>K (s'.put o.dst r)):OpS P o s K:=by
 have hd:∀c,o.op≠.defer c:=λc e=>by rw[ho] at e;cases e
 obtain⟨h1,h2⟩:=af.1 h;refine OpS.val _ _ hd h2 λE G a w hs=>?_;obtain⟨G',w',h3,h4,h5⟩:=CG (P:=P) h1 hs (hs.ev hx) t;refine⟨_,G',w',?_,h4,h5⟩;unfold execOp;simp[ho,Instr.box,h3]
theorem Ar{P:Program}{s:St}{o:Oper}{t:TypeId}(ho:o.op=.alloc t){i:TypeInfo}{z:Value}{x:AV}(hi:P.info? t=some i)(hz:i.zero=some z)(hx:cO z=some x){K:St->Prop}
  (h:DH s x λr s'=>K (s'.put o.dst r)):OpS P o s K:=by
 have hd:∀c,o.op≠.defer c:=λc e=>by rw[ho] at e;cases e
 obtain⟨h1,h2⟩:=af.1 h;refine OpS.val _ _ hd h2 λE G a w hs=>?_;obtain⟨G',w',h3,h4,h5⟩:=CG (P:=P) h1 hs (.flat (ee hx)) t;refine⟨_,G',w',?_,h4,h5⟩;unfold execOp;simp[ho,Instr.alloc,zeroValue,typeInfo,hi,hz,h3]
theorem RS.setCell{E:Entry}{G:Gh}{s:St}{a:Act}{w:World}(h:RS E G s a w){b j:Nat}{cs:List AV}(hb:aa s.bs b=some cs)(hj:j<cs.length){x:AV}{v:Value}(hx:RV G.M G.σ s.bs.length x v)(h1:v.oneCell'=true):
  RS E G (s.bn b (cs.set j x)) a (w.setCell ⟨G.σ b,j,none⟩ v)/\w.frozen? ⟨G.σ b,j,none⟩=false/\∃u,w.cell? ⟨G.σ b,j,none⟩=some u:=by
 have hblt:=h.blt hb;obtain⟨vs,T,hc,hvl⟩:=h.box b cs hb;obtain⟨hM,hmine⟩:=h.bmem b cs hb;have hat0:s.at (.bx b j)=some cs[j]:=by simp[St.at,hb,hj]
 have hset:s.bn b (cs.set j x)=s.upd (.bx b j) x:=by simp[St.upd,hb]
 have hcell:∃u,w.cell? ⟨G.σ b,j,none⟩=some u:=⟨vs[j]'(by omega),by simp only[World.cell?,hc];simp[show j<vs.size by omega]⟩
 have hother:∀k,k≠G.σ b->(w.setCell ⟨G.σ b,j,none⟩ v).heap[k]? =w.heap[k]?:=λk hk=>Below.heap_setCell _ _ _ _ hk
 have hsame:(w.setCell ⟨G.σ b,j,none⟩ v).heap[G.σ b]? =some (.cells (vs.setIfInBounds j v) T (0,0)):=by
  simp only[World.setCell,Array.getElem?_modify,if_true,hc];rfl
 have hsize:(w.setCell ⟨G.σ b,j,none⟩ v).heap.size=w.heap.size:=by simp[World.setCell]
 have hcl:∀p B,G.cl p=some B->B≠G.σ b:=λp B hB e=>h.clbox p B hB b cs hb e.symm
 have hval:∀p y,s.at p=some y->ay G.σ a (w.setCell ⟨G.σ b,j,none⟩ v) p=if p=.bx b j then v else ay G.σ a w p:=λp y hp=>by
  cases p with
  |sl t=>simp[ay]
  |bx b' j'=>
   simp only[St.at] at hp
   cases hb':aa s.bs b' with
   |none=>rw[hb'] at hp;cases hp
   |some ds=>
    simp only[ay];rw[tv]
    by_cases e:b'=b
    .subst e
     by_cases e2:j'=j
     .subst e2;obtain⟨u,hu⟩:=hcell;simp[hu]
     .rw [if_neg (by simpa using λe=>e2 e.symm),if_neg (by simpa using e2)]
    .rw [if_neg (λh'=>e (h.inj b' b ds cs hb' hb h'.1.symm)),if_neg (by simp[e])]
 refine⟨?_,?_,hcell⟩
 .rw [hset];have hatu:=λp=>St.ef s hat0 x p;refine⟨?_,λB o u hu=>?_,h.nt,λp y hp=>?_,λb' j' y hp=>?_,λb' ds hb'=>?_,λb' ds hb'=>?_,λb' b'' ds ds' hb' hb'' e=>?_,λp z l hp=>?_,h.clinj,λp B hB b' ds hb'=>?_,λp B hB=>?_,(St.o0 s _ x).trans h.lo,by rw[St.eM];exact h.len,h.sig,h.sp.step (Hp.le_refl _) (λ_ _=>rfl) (λ_ _ k=>St.jO k) (λB o ho hk=>by rw[hother B (λe=>by subst e;rw[hc] at ho;cases ho;cases hk)];exact ho) (λ_ _ _ _ p k=>⟨p,k⟩) (λ_ k=>k) (λ_ _ B _ _ h1 h2=>⟨h1,(hother B (hcl _ B h1)).trans h2,λh3=>h3⟩)⟩
  .refine ⟨h.fr.os,h.fr.tape,h.fr.output,by rw[hsize];exact h.fr.size,h.fr.le,λB hB hn=>?_,h.fr.mem⟩
   rw[hother B (λe=>?_)]
   .exact h.fr.heap B hB hn
   .subst e;rcases hmine with hm|hm
    .exact hn hm
    .omega
  .have:=h.ok _ _ _ hu;show (w.setCell _ v).cell? _=some u;rw[tv,if_neg (λe=>by rw[<-e.1] at hu;rw[hM] at hu;cases hu)]
   exact this
  .rw [St.eM];rw[hatu] at hp
   by_cases e:p=.bx b j
   .rw [if_pos e] at hp;cases hp;rw[hval p _ (e▸hat0),if_pos e,hx.b8];exact hx
   .rw [if_neg e] at hp;rw[hval p y hp,if_neg e];exact h.val p y hp
  .rw [hatu] at hp
   by_cases e:Pl.bx b' j'=.bx b j
   .rw [hval _ _ (e▸hat0),if_pos e];exact h1
   .rw [if_neg e] at hp;rw[hval _ y hp,if_neg e];exact h.one b' j' y hp
  .obtain ⟨es,h2,h3⟩:=s.bC _ x b' ds hb'
   by_cases e:b'=b
   .subst e;rw[hb] at h2;cases h2;exact⟨_,T,hsame,by simp;omega⟩
   .obtain ⟨us,T',h4,h5⟩:=h.box b' es h2;exact⟨us,T',by rw[hother _ (λe2=>e (h.inj b' b es cs h2 hb e2))];exact h4,by omega⟩
  .obtain ⟨es,h2,h3⟩:=s.bC _ x b' ds hb';exact h.bmem b' es h2
  .obtain ⟨es,h2,_⟩:=s.bC _ x b' ds hb';obtain⟨es',h2',_⟩:=s.bC _ x b'' ds' hb'';exact h.inj b' b'' es es' h2 h2' e
  .rw [hatu] at hp
   by_cases e:p=.bx b j
   .rw [if_pos e] at hp;cases hp;have:=hx.b8;simp[AV.aF] at this
   .rw [if_neg e] at hp;obtain⟨ad,k,h2,hz,h3⟩:=h.own p z l hp;refine⟨ad,k,by rw[hval p _ hp,if_neg e];exact h2,hz,?_⟩
    rcases h3 with h3|⟨B,hB,h4,h5⟩
    .exact .inl h3
    .obtain ⟨us,T',h6,h7⟩:=h5.cells;exact .inr ⟨B,hB,h4,h5.lt,⟨us,T',by rw[hother B (hcl p B hB)];exact h6,h7⟩,h5.free,h5.mine⟩
  .obtain ⟨es,h2,_⟩:=s.bC _ x b' ds hb';exact h.clbox p B hB b' es h2
  .obtain ⟨h2,h3⟩:=h.cllt p B hB;exact⟨by rw[hsize];exact h2,h3⟩
 .simp only[World.frozen?,hc];simp
def setAt(xs:List AV):Nat->List AV->List AV
 |_,[]=>xs
 |o,c::cs=>setAt (xs.set o c) (o+1) cs
theorem fC:∀(cs xs:List AV) (o:Nat),(setAt xs o cs).length=xs.length
 |[],_,_=>rfl
 |c::cs,xs,o=>by rw[setAt,fC cs,zm]
theorem St.AW(s:St)(b:Nat)(xs ys:List AV):(s.bn b xs).bn b ys=s.bn b ys:=by
 simp[St.bn]
theorem dG{P:Program}{E:Entry}{G:Gh}{a:Act}:∀(us:List Value) (xs:List AV) (s:St) (w:World) (b off i:Nat) (cs:List AV),RS E G s a w->aa s.bs b=some cs->off+i+xs.length<=cs.length->us.length=xs.length->(∀u∈us,u.oneCell'=true)->
  (∀j (hj:j<xs.length) u,us[j]? =some u->RV G.M G.σ s.bs.length xs[j] u)->∃w',(storeCells ⟨G.σ b,off,none⟩ us i).run P w=.ok () w'/\RS E G (s.bn b (setAt cs (off+i) xs)) a w'
 |[],[],s,w,b,off,i,cs,h,hb,_,_,_,_=>by
  refine⟨w,rfl,?_⟩;have hlt:=aC hb;refine h.o8 (bs':=s.bs.set b (.cells cs)) (λc=>?_) (λc=>?_) (by simp)
  .rw [cx hb];split
   .rename_i e;rw[e,hb]
   .rfl
  .simp only[ai,zq]
   by_cases e:b=c
   .subst e;simp only[aa] at hb;rw[if_pos rfl,if_pos hlt]
    cases hx:s.bs[b]? with
    |none=>rw[hx] at hb;cases hb
    |some y=>
     rw[hx] at hb;cases y<;>first|rfl|cases hb
   .rw [if_neg e]
 |u::us,x::xs,s,w,b,off,i,cs,h,hb,hle,hl,h1,hv=>by
  simp only[zX] at hle hl;obtain⟨h2,h3,v0,h4⟩:=h.setCell hb (j:=off+i) (by omega) (hv 0 (by simp) u rfl) (h1 u (by simp))
  have hb2:aa (s.bn b (cs.set (off+i) x)).bs b=some (cs.set (off+i) x):=by
   simp only[St.bn];rw[cx hb,if_pos rfl]
  obtain⟨w',h5,h6⟩:=dG us xs _ _ b off (i+1) _ h2 hb2 (by simp;omega) (by omega) (λv hv'=>h1 v (by simp[hv'])) (λj hj v hv'=>by
   have:=hv (j+1) (by simp;omega) v (by simpa using hv')
   simpa[St.bn] using this)
  refine⟨w',?_,?_⟩
  .simp only[storeCells,yL];rw[run_store P w _ u .plain (h1 u (by simp)),bO,h4]
   simp only[h3,ZX,if_false,yK];exact h5
  .rw [St.AW] at h6;rw[setAt]
   rw[Zh];exact h6
 |[],_::_,_,_,_,_,_,_,_,_,_,hl,_,_=>by simp at hl
 |_::_,[],_,_,_,_,_,_,_,_,_,hl,_,_=>by simp at hl
def bP(n:Nat)(s:St)(p v:AV)(K:St->Prop):Prop:=
 match p with
 |.ptr b off=>match aa s.bs b with
  |some cs=>req (a8 v&&(Nat.beq v.cells.length n&&Nat.ble (off+n) cs.length)) (K (s.bn b (setAt cs off v.cells)))
  |none=>False
 |_=>False
theorem iK{P:Program}{s:St}{o:Oper}{t:TypeId}{p x:Operand}(ho:o.op=.store t p x)(hdn:o.dst=none){rp rx:Opd}(hp:opd p=some rp)(hx:opd x=some rx){n:Nat}(hn:dc P t=some n){K:St->Prop}
  (h:bP n s (s.ev rp) (s.ev rx) K):OpS P o s K:=by
 have hd:∀c,o.op≠.defer c:=λc e=>by rw[ho] at e;cases e
 unfold bP at h;split at h
 .rename_i b off hpe;split at h
  .rename_i cs hb;obtain⟨h1,h2⟩:=af.1 h;simp only[zD] at h1;obtain⟨hc,hl,hle⟩:=h1;have hl:=zP hl;have hle:=zr hle;refine OpS.skip _ hd hdn h2 λE G a w hs=>?_;have hpv:=hs.ev hp;rw[hpe] at hpv;obtain⟨hpv,_⟩:=hpv.iQ;obtain⟨c1,c2,c3⟩:=(hs.ev hx).cells hc;obtain⟨w',h5,h6⟩:=dG (P:=P) (a.eval x).cells.toList (s.ev rx).cells s w b off 0 cs hs hb (by omega) c1 c2 c3
   refine⟨G,w',?_,h6⟩;have hsz:(a.eval x).cells.size=n:=by rw[<-ZJ,c1,hl]
   unfold execOp;simp[ho,Instr.storeAt,hpv,Instr.sureAddr,storeVar,aN hn,hsz,h5]
  .exact h.elim
 .exact h.elim
def mO(n:Nat)(s:St)(b i z off:Nat)(v:AV)(K:St->Prop):Prop:=
 match aa s.bs b with
 |some cs=>(a8 v=true/\v.cells.length=n/\0<n/\i*z+off+n<=cs.length)/\K ⟨s.env,s.bs.set b (.row (setAt cs (i*z+off) v.cells)),s.lo⟩
 |none=>False
theorem RS.H2{E:Entry}{G:Gh}{s:St}{a:Act}{w:World}(h:RS E G s a w){b:Nat}{cs:List AV}(hb:s.bs[b]? =some (.cells cs))(h0:cs≠[]):RS E G ⟨s.env,s.bs.set b (.row cs),s.lo⟩ a w:=by
 have hlt:b<s.bs.length:=(zB.1 hb).1;refine h.o8 (λc=>?_) (λc=>?_) (by simp)
 .simp only[aa,zq]
  by_cases e:b=c
  .subst e;rw[if_pos rfl,if_pos hlt,hb]
   cases cs with
   |nil=>exact absurd rfl h0
   |cons c cs=>rfl
  .rw [if_neg e]
 .simp only[ai,zq]
  by_cases e:b=c
  .subst e;rw[if_pos rfl,if_pos hlt,hb];rfl
  .rw [if_neg e]
theorem v7{P:Program}{s:St}{o:Oper}{t:TypeId}{p x:Operand}(ho:o.op=.store t p x)(hdn:o.dst=none){rp rx:Opd}(hp:opd p=some rp)(hx:opd x=some rx){n:Nat}(hn:dc P t=some n){b i z off:Nat}(hpe:s.ev rp=.elp b i z off){K:St->Prop}
  (h:mO n s b i z off (s.ev rx) K):OpS P o s K:=by
 have hd:∀c,o.op≠.defer c:=λc e=>by rw[ho] at e;cases e
 unfold mO at h;split at h
 .rename_i cs hb;obtain⟨⟨hc,hl,h0,hle⟩,h2⟩:=h;refine OpS.skip _ hd hdn h2 λE G a w hs=>?_;have hpv:=hs.ev hp;rw[hpe] at hpv;obtain⟨hpv,_⟩:=hpv.oM;obtain⟨c1,c2,c3⟩:=(hs.ev hx).cells hc;obtain⟨w',h5,h6⟩:=dG (P:=P) (a.eval x).cells.toList (s.ev rx).cells s w b (i*z+off) 0 cs hs hb (by omega) c1 c2 c3
  have hsz:(a.eval x).cells.size=n:=by rw[<-ZJ,c1,hl]
  refine⟨G,w',?_,?_⟩
  .unfold execOp;simp[ho,Instr.storeAt,hpv,Instr.sureAddr,storeVar,aN hn,hsz,h5]
  .have hlt:=aC hb
   have h0':setAt cs (i*z+off) (s.ev rx).cells≠[]:=λe=>by
    have:=congrArg List.length e;rw[fC] at this;simp only[ZP] at this;omega
   have:=h6.H2 (b:=b) (cs:=setAt cs (i*z+off) (s.ev rx).cells) (by simp[St.bn,hlt]) h0'
   simpa[St.bn] using this
 .exact h.elim
end Go.AM
