/-
  Texts of this aZ joined (wip/gen/bundle.py),those declarations only that are needed:AmS AmO. By an AI agent.
-/
import Derived.Test.YtpihbplamelcnaaGreatBaa
import Derived.CallsIn
set_option linter.unusedSimpArgs false
set_option linter.unusedVariables false
namespace Go.AM
open Go.CK Go.RowKit
structure LB where
 M:Hp
 σ:Nat->Nat
 n:Nat
 r:Loop
 mp:Option (List MapEntry×Nat):=none
def n3:AV->Value
 |.bool b=>.bool b
 |.int k n=>.int k n
 |_=>.agg #[]
def vOf:AV->Value
 |.bool b=>.bool b
 |.int k n=>.int k n
 |.agg cs=>.agg (cs.map n3).toArray
 |_=>.agg #[]
def dm:Nat->List (Int×AV)->List MapEntry
 |_,[]=>[]
 |i,(k,x)::l=>{key:=.int .i64 k,val:=vOf x,born:=i}::dm (i+1) l
def dV(l:List (Int×AV)):Array MapEntry:=(dm 0 l).toArray
def LB.obj(x:LB):Obj:=match x.mp with
 |none=>.loop x.r
 |some (es,n)=>.map es.toArray n
theorem LB.r9{x:LB}(h:x.mp=none):x.obj=.loop x.r:=by unfold LB.obj;rw[h]
theorem LB.Gw(x:LB):x.obj.isCells=false:=by
 unfold LB.obj;cases x.mp<;>rfl
theorem LB.Gx(x:LB){d:Option (List Deferred)}(h:some (Obj.deferred d)=some x.obj):False:=by
 unfold LB.obj at h;cases hx:x.mp<;>rw[hx] at h<;>cases h
theorem LB.Cy(x:LB){vs:Array Value}{T:TypeId}{q:Nat×Nat}(h:some (Obj.cells vs T q)=some x.obj):False:=by
 have:=x.Gw;cases h':x.obj<;>rw[h'] at h this<;>first|(cases h;done)|cases this
def mLB(es:List MapEntry)(n:Nat):LB:=⟨λ_ _=>none,λ_=>0,0,default,some (es,n)⟩
def Jh(l:List (Int×AV)):LB:=mLB (dm 0 l) l.length
def mqE(l:List (Int×AV×Nat)):List MapEntry:=l.map λe=>{key:=.int .i64 e.1,val:=vOf e.2.1,born:=e.2.2}
inductive Box where
 |cells (cs:List AV)
 |dead
 |loop (x:LB)
 |row (cs:List AV)
 |mp (l:List (Int×AV))
 |mq (l:List (Int×AV×Nat)) (c:Nat)
instance:Inhabited Box:=⟨.dead⟩
def aq:List (Nat×AV)->Nat->Option AV
 |[],_=>none
 |(t,v)::r,k=>match Nat.beq t k with
  |true=>some v
  |false=>aq r k
def aV:List (Nat×AV)->Nat->AV->List (Nat×AV)
 |[],k,v=>[(k,v)]
 |(t,u)::r,k,v=>match Nat.beq t k with
  |true=>(k,v)::r
  |false=>match Nat.blt k t with
   |true=>(k,v)::(t,u)::r
   |false=>(t,u)::aV r k v
def fj(f:Nat->Bool):List (Nat×AV)->List (Nat×AV)
 |[]=>[]
 |(t,v)::r=>match f t with
  |true=>(t,v)::fj f r
  |false=>fj f r
theorem cK{a b:Nat}(h:¬a=b):Nat.beq a b=false:=by
 cases hb:Nat.beq a b with
 |false=>rfl
 |true=>exact absurd (zO hb) h
theorem eE:∀(e:List (Nat×AV)) (k:Nat) (v:AV) (j:Nat),aq (aV e k v) j=if j=k then some v else aq e j
 |[],k,v,j=>by
  simp only[aV,aq]
  by_cases h:k=j
  .subst h;simp
  .rw [if_neg (λe=>h e.symm)];have:Nat.beq k j=false:=cK h
   rw[this]
 |(t,u)::r,k,v,j=>by
  simp only[aV]
  by_cases h:t=k
  .subst h;have:Nat.beq t t=true:=by simp
   rw[this];simp only[aq]
   by_cases h2:t=j
   .subst h2;simp
   .have:Nat.beq t j=false:=cK h2;rw[this,if_neg (λe=>h2 e.symm)]
  .have hk:Nat.beq t k=false:=cK h;rw[hk];simp only
   cases hb:Nat.blt k t with
   |true=>
    simp only[aq]
    by_cases h2:k=j
    .subst h2;simp
    .have:Nat.beq k j=false:=cK h2
     rw[this,if_neg (λe=>h2 e.symm)]
   |false=>
    simp only[aq]
    by_cases h2:t=j
    .subst h2;have:Nat.beq t t=true:=by simp
     rw[this,if_neg h]
    .have:Nat.beq t j=false:=cK h2;rw[this];exact eE r k v j
theorem oR(f:Nat->Bool):∀(e:List (Nat×AV)) (j:Nat) (v:AV),aq (fj f e) j=some v->aq e j=some v/\f j=true
 |[],j,v,h=>by cases h
 |(t,u)::r,j,v,h=>by
  simp only[fj] at h
  cases hf:f t with
  |true=>
   rw[hf] at h;simp only[aq] at h|-
   cases hb:Nat.beq t j with
   |true=>rw[hb] at h;simp only at h;have:=zO hb;subst this;exact⟨h,hf⟩
   |false=>rw[hb] at h;exact oR f r j v h
  |false=>
   rw[hf] at h;simp only at h;obtain⟨h1,h2⟩:=oR f r j v h;simp only[aq]
   cases hb:Nat.beq t j with
   |true=>have:=zO hb;subst this;rw[hf] at h2;cases h2
   |false=>exact⟨h1,h2⟩
structure St where
 env:List (Nat×AV)
 bs:List Box
 lo:Nat
inductive Pl where
 |sl (t:Nat)
 |bx (b j:Nat)
deriving DecidableEq
def Box.cs?:Box->Option (List AV)
 |.cells cs=>some cs
 |.row (c::cs)=>some (c::cs)
 |_=>none
def Box.lb?:Box->Option LB
 |.loop x=>some x
 |.mp l=>some (Jh l)
 |.mq l c=>some (mLB (mqE l) c)
 |_=>none
def ab(bs:List Box)(b:Nat):Option (List AV):=
 match bs[b]? with
 |some x=>x.cs?
 |none=>none
def ag(bs:List Box)(b:Nat):Option LB:=
 match bs[b]? with
 |some x=>x.lb?
 |none=>none
theorem my(cs:List AV):(Box.row cs).cs? =if cs=[] then none else some cs:=by cases cs<;>rfl
def St.at(s:St):Pl->Option AV
 |.sl t=>aq s.env t
 |.bx b j=>(ab s.bs b).bind (·[j]?)
def St.get(s:St)(t:Nat):AV:=match aq s.env t with
 |some v=>v
 |none=>.top
def St.put(s:St)(d:Option Nat)(x:AV):St:=match d with
 |some k=>⟨aV s.env k x,s.bs,s.lo⟩
 |none=>s
def St.bz(s:St)(b:Nat)(cs:List AV):St:=⟨s.env,s.bs.set b (.cells cs),s.lo⟩
def St.upd(s:St)(p:Pl)(x:AV):St:=
 match p with
 |.sl t=>⟨aV s.env t x,s.bs,s.lo⟩
 |.bx b j=>match ab s.bs b with
  |some cs=>s.bz b (cs.set j x)
  |none=>s
theorem St.eF(s:St)(k:Nat)(x:AV)(p:Pl):(s.put (some k) x).at p=if p=.sl k then some x else s.at p:=by
 cases p with
 |sl t=>
  simp only[St.put,St.at,eE]
  by_cases h:t=k
  .subst h;simp
  .rw [if_neg h,if_neg (by simpa using h)]
 |bx b j=>simp[St.put,St.at]
theorem dR{bs:List Box}{b:Nat}{cs:List AV}(h:ab bs b=some cs)(ds:List AV)(b':Nat):ab (bs.set b (.cells ds)) b'=if b'=b then some ds else ab bs b':=by
 have hb:b<bs.length:=by
  rcases zt b bs.length with h1|h1
  .exact h1
  .simp [ab,zR h1] at h
 simp only[ab,zq]
 by_cases e:b=b'
 .subst e;simp[hb,Box.cs?]
 .rw [if_neg e,if_neg (λx=>e x.symm)]
theorem aC{bs:List Box}{b:Nat}{cs:List AV}(h:ab bs b=some cs):b<bs.length:=by
 rcases zt b bs.length with h1|h1
 .exact h1
 .simp [ab,zR h1] at h
theorem aT(bs:List Box)(x:Box)(b:Nat):ab (bs++[x]) b=if b=bs.length then x.cs? else ab bs b:=by
 simp only[ab]
 by_cases h:b<bs.length
 .rw [zK h,if_neg (by omega)]
 .by_cases h2:b=bs.length
  .subst h2;simp
  .rw [if_neg h2,zR (by simp;omega),zR (by omega)]
structure Entry where
 FP:Nat->Prop
 M:Hp
 w:World
 nt:Nat
 nb:Nat
 σ0:Nat->Nat
 dd:List Deferred
structure Gh where
 M:Hp
 σ:Nat->Nat
 cl:Pl->Option Nat
def au(σ:Nat->Nat)(a:Act)(w:World):Pl->Value
 |.sl t=>a.tmps.getD t undef
 |.bx b j=>(w.cell? ⟨σ b,j,none⟩).getD undef
def mark(D:Nat):Deferred:={target:=.collected D,args:=#[]}
def Spc(σ:Nat->Nat)(bs:List Box)(ds:List Deferred)(B:Nat)(o:Obj):Prop:=(∃b x,ag bs b=some x/\σ b=B/\o=x.obj)\/(mark B∈ds/\o=.deferred (some []))
structure Sp(FP:Nat->Prop)(w0:World)(M:Hp)(σ:Nat->Nat)(cl:Pl->Option Nat)(bs:List Box)(ds dd:List Deferred)(w:World):Prop where
 ob:∀B o,Spc σ bs ds B o->w.heap[B]? =some o/\(∀p,cl p≠some B)/\(FP B\/w0.heap.size<=B)
 base:∀b x,ag bs b=some x->x.M.le M/\x.n<=b/\∀c,c<x.n->σ c=x.σ c
 inj:∀b b' x x',ag bs b=some x->ag bs b'=some x'->σ b=σ b'->b=b'
 ds:∃Ds:List Nat,ds=Ds.map mark++dd/\ds.Nodup
theorem Spc.AO{σ:Nat->Nat}{bs:List Box}{ds:List Deferred}{B:Nat}{o:Obj}(h:Spc σ bs ds B o):o.isCells=false:=by
 rcases h with ⟨b,x,_,_,rfl⟩|⟨_,rfl⟩
 .exact x.Gw
 .rfl
theorem aW{bs:List Box}{b:Nat}{x:LB}(h:ag bs b=some x):b<bs.length:=by
 rcases zt b bs.length with h1|h1
 .exact h1
 .simp [ag,zR h1] at h
theorem eM{b:Nat}{x:LB}(h:ag [] b=some x):False:=by simp[ag] at h
theorem Sp.none(FP:Nat->Prop)(w0:World)(M:Hp)(σ:Nat->Nat)(cl:Pl->Option Nat)(w:World):Sp FP w0 M σ cl [] [] [] w:=
 ⟨λB o h=>(by rcases h with ⟨b,x,hb,_⟩|⟨h,_⟩;exact(eM hb).elim;cases h),λb x hb=>(eM hb).elim,λb b' x x' hb=>(eM hb).elim,[],rfl,.nil⟩
theorem Sp.step{FP FP':Nat->Prop}{w0 w0':World}{M M':Hp}{σ σ':Nat->Nat}{cl cl':Pl->Option Nat}{bs bs':List Box}{ds dd:List Deferred}{w w':World}(h:Sp FP w0 M σ cl bs ds dd w)(hM:M.le M')(hσ:∀b,b<bs.length->σ' b=σ b)
  (hl:∀b x,ag bs' b=some x->ag bs b=some x) (hw:∀(B:Nat) (o:Obj),w.heap[B]? =some o->o.isCells=false->w'.heap[B]? =some o) (hcl:∀(B:Nat) (o:Obj),w.heap[B]? =some o->o.isCells=false->∀p,cl' p=some B->∃q,cl q=some B)
  (hm:∀B,FP B\/w0.heap.size<=B->FP' B\/w0'.heap.size<=B):Sp FP' w0' M' σ' cl' bs' ds dd w':=by
 refine⟨λB o hs=>?_,λb x hb=>?_,λb b' x x' hb hb' e=>?_,h.ds⟩
 .have hs':Spc σ bs ds B o:=by
   rcases hs with ⟨b,x,hb,e,ho⟩|hs
   .have:=hl b x hb;exact .inl ⟨b,x,this,by rw[<-hσ b (aW this)];exact e,ho⟩
   .exact .inr hs
  obtain⟨h1,h2,h3⟩:=h.ob B o hs';refine⟨hw B o h1 hs'.AO,λp hp=>?_,hm B h3⟩;obtain⟨q,hq⟩:=hcl B o h1 hs'.AO p hp;exact h2 q hq
 .have hb':=hl b x hb;obtain⟨h1,h2,h3⟩:=h.base b x hb';have:=aW hb';exact⟨Hp.le_trans h1 hM,h2,λc hc=>(hσ c (by omega)).trans (h3 c hc)⟩
 .have h1:=hl b x hb;have h2:=hl b' x' hb';exact h.inj b b' x x' h1 h2 (by rw[<-hσ b (aW h1),<-hσ b' (aW h2)];exact e)
theorem Sp.loops{FP:Nat->Prop}{w0:World}{M:Hp}{σ:Nat->Nat}{cl:Pl->Option Nat}{bs bs':List Box}{ds dd:List Deferred}{w:World}(h:Sp FP w0 M σ cl bs ds dd w)(hl:∀b x,ag bs' b=some x->ag bs b=some x):Sp FP w0 M σ cl bs' ds dd w:=
 h.step (Hp.le_refl _) (λ_ _=>rfl) hl (λ_ _ k _=>k) (λ_ _ _ _ p k=>⟨p,k⟩) (λ_ k=>k)
theorem Fu{bs:List Box}{b:Nat}{cs:List AV}{c:Nat}{x:LB}(h:ag (bs.set b (.cells cs)) c=some x):ag bs c=some x:=by
 by_cases e:b=c
 .subst e
  by_cases hb:b<bs.length
  .simp [ag,hb] at h;cases h
  .simp [ag,hb] at h
 .simp only[ag,zq,if_neg e] at h;exact h
theorem jR{bs:List Box}{y:Box}(hy:y.lb? =none){c:Nat}{x:LB}(h:ag (bs++[y]) c=some x):ag bs c=some x:=by
 simp only[ag] at h|-
 by_cases h1:c<bs.length
 .rwa [zK h1] at h
 .by_cases h2:c=bs.length
  .subst h2;simp[hy] at h
  .rw [zR (by simp;omega)] at h;cases h
structure Fr(FP:Nat->Prop)(M:Hp)(w:World)(M':Hp)(w':World):Prop where
 os:w'.os=w.os
 tape:w'.tape=w.tape
 output:w'.output=w.output
 size:w.heap.size<=w'.heap.size
 le:M.le M'
 heap:∀B,B<w.heap.size->¬FP B->w'.heap[B]? =w.heap[B]?
 mem:∀B,B<w.heap.size->¬FP B->∀o,M' B o=M B o
theorem Fr.refl(FP:Nat->Prop)(M:Hp)(w:World):Fr FP M w M w:=⟨rfl,rfl,rfl,zG _,Hp.le_refl _,λ_ _ _=>rfl,λ_ _ _ _=>rfl⟩
theorem Fr.trans{FP FP':Nat->Prop}{M M1 M2:Hp}{w w1 w2:World}(h:Fr FP M w M1 w1)(k:Fr FP' M1 w1 M2 w2)(hs:∀B,FP' B->FP B\/w.heap.size<=B):Fr FP M w M2 w2:=by
 refine⟨k.os.trans h.os,k.tape.trans h.tape,k.output.trans h.output,ZO h.size k.size,Hp.le_trans h.le k.le,λB hB hn=>?_,λB hB hn o=>?_⟩
 .have:¬FP' B:=λe=>by rcases hs B e with e|e;exact hn e;omega
  exact(k.heap B (by have:=h.size;omega) this).trans (h.heap B hB hn)
 .have:¬FP' B:=λe=>by rcases hs B e with e|e;exact hn e;omega
  exact(k.mem B (by have:=h.size;omega) this o).trans (h.mem B hB hn o)
structure Row(FP:Nat->Prop)(w0:World)(M:Hp)(w:World)(B sz n k:Nat):Prop where
 lt:n<k
 cells:∃(vs:Array Value) (T:TypeId),w.heap[B]? =some (.cells vs T (0,0))/\vs.size=k*sz
 free:∀o,n*sz<=o->M B o=none
 mine:FP B\/w0.heap.size<=B
structure RS(E:Entry)(G:Gh)(s:St)(a:Act)(w:World):Prop where
 fr:Fr E.FP E.M E.w G.M w
 ok:G.M.le (Hp.of w)
 nt:a.tmps.size=E.nt
 val:∀p x,s.at p=some x->RV G.M G.σ s.bs.length x.aG (au G.σ a w p)
 one:∀b j x,s.at (.bx b j)=some x->(au G.σ a w (.bx b j)).oneCell'=true
 box:∀b cs,ab s.bs b=some cs->∃(vs:Array Value) (T:TypeId),w.heap[G.σ b]? =some (.cells vs T (0,0))/\cs.length<=vs.size
 bmem:∀b cs,ab s.bs b=some cs->(∀o,G.M (G.σ b) o=none)/\(E.FP (G.σ b)\/E.w.heap.size<=G.σ b)
 inj:∀b b' cs cs',ab s.bs b=some cs->ab s.bs b'=some cs'->G.σ b=G.σ b'->b=b'
 own:∀p z l,s.at p=some (.sl (.own z) l)->∃ad k,au G.σ a w p=.slice ad l.length k/\(∀y∈l,y.cells.length=z)/\(k=l.length\/∃B,G.cl p=some B/\ad=some ⟨B,0,none⟩/\Row E.FP E.w G.M w B z l.length k)
 clinj:∀p q B,G.cl p=some B->G.cl q=some B->p=q
 clbox:∀p B,G.cl p=some B->∀b cs,ab s.bs b=some cs->G.σ b≠B
 cllt:∀p B,G.cl p=some B->B<w.heap.size/\(E.FP B\/E.w.heap.size<=B)
 lo:s.lo=E.nb
 len:E.nb<=s.bs.length
 sig:∀b,b<E.nb->G.σ b=E.σ0 b
 sp:Sp E.FP E.w G.M G.σ G.cl s.bs a.defers E.dd w
section
variable{E:Entry}{G:Gh}{s:St}{a:Act}{w:World}
theorem RS.blt(h:RS E G s a w){b:Nat}{cs:List AV}(hb:ab s.bs b=some cs):G.σ b<w.heap.size:=by
 obtain⟨vs,T,h1,_⟩:=h.box b cs hb;rcases zt (G.σ b) w.heap.size with h2|h2
 .exact h2
 .rw [Zn (by omega)] at h1;cases h1
theorem bX{w w':World}{B:Nat}(h:w'.heap[B]? =w.heap[B]?)(o:Nat):w'.cell? ⟨B,o,none⟩=w.cell? ⟨B,o,none⟩:=by
 simp only[World.cell?,h]
theorem RS.sW(h:RS E G s a w){bs':List Box}(hc:∀b,ab bs' b=ab s.bs b)(hl:∀b,ag bs' b=ag s.bs b)(hn:bs'.length=s.bs.length):RS E G ⟨s.env,bs',s.lo⟩ a w:=by
 have hat:∀p,(⟨s.env,bs',s.lo⟩:St).at p=s.at p:=λp=>by
  cases p with
  |sl t=>rfl
  |bx b j=>simp only[St.at,hc]
 exact⟨h.fr,h.ok,h.nt,λp x hp=>by simp only[hn];exact h.val p x (by rw[<-hat];exact hp),λb j x hp=>h.one b j x (by rw[<-hat];exact hp),λb cs hb=>h.box b cs (by rw[<-hc];exact hb),λb cs hb=>h.bmem b cs (by rw[<-hc];exact hb),λb b' cs cs' hb hb'=>h.inj b b' cs cs' (by rw[<-hc];exact hb) (by rw[<-hc];exact hb'),λp z l hp=>h.own p z l (by rw[<-hat];exact hp),h.clinj,λp B hB b cs hb=>h.clbox p B hB b cs (by rw[<-hc];exact hb),h.cllt,h.lo,by simp only[hn];exact h.len,h.sig,h.sp.loops λb x hb=>by rw[<-hl];exact hb⟩
theorem RS.grow(h:RS E G s a w){M':Hp}{w':World}(hf:Fr (λ_=>False) G.M w M' w')(hok:M'.le (Hp.of w')):RS E {G with M:=M'} s a w':=by
 have hlt:∀B o v,G.M B o=some v->B<w.heap.size:=λB o v e=>Hp.lt h.ok e;have hmem:∀B,B<w.heap.size->∀o,M' B o=G.M B o:=λB hB o=>hf.mem B hB (λe=>e) o;have hheap:∀B,B<w.heap.size->w'.heap[B]? =w.heap[B]?:=λB hB=>hf.heap B hB (λe=>e)
 have hval:∀p x,s.at p=some x->au G.σ a w' p=au G.σ a w p:=λp x hx=>by
  cases p with
  |sl t=>rfl
  |bx b j=>
   simp only[St.at] at hx
   cases hb:ab s.bs b with
   |none=>rw[hb] at hx;cases hx
   |some cs=>simp only[au];rw[bX (hheap _ (h.blt hb))]
 refine⟨h.fr.trans hf (λ_ e=>e.elim),hok,h.nt,λp x hx=>?_,λb j x hx=>?_,λb cs hb=>?_,λb cs hb=>?_,h.inj,λp z l hp=>?_,h.clinj,h.clbox,λp B hB=>?_,h.lo,h.len,h.sig,h.sp.step hf.le (λ_ _=>rfl) (λ_ _ k=>k) (λB o ho _=>(hheap B (zh.1 ho).1).trans ho) (λ_ _ _ _ p k=>⟨p,k⟩) (λ_ k=>k)⟩
 .show RV M' G.σ _ _ (au G.σ a w' p);rw[hval p x hx];exact(h.val p x hx).mono hf.le (zG _) (λ_ _=>rfl)
 .show (au G.σ a w' _).oneCell'=true;rw[hval _ x hx];exact h.one b j x hx
 .obtain ⟨vs,T,h1,h2⟩:=h.box b cs hb;exact⟨vs,T,(hheap _ (h.blt hb)).trans h1,h2⟩
 .obtain ⟨h1,h2⟩:=h.bmem b cs hb;exact⟨λo=>(hmem _ (h.blt hb) o).trans (h1 o),h2⟩
 .obtain ⟨ad,k,h1,hz,h2⟩:=h.own p z l hp;refine⟨ad,k,(hval p _ hp).trans h1,hz,?_⟩;rcases h2 with h2|⟨B,hB,had,hrow⟩
  .exact .inl h2
  .have hB':=(h.cllt p B hB).1;obtain⟨vs,T,h3,h4⟩:=hrow.cells;exact .inr ⟨B,hB,had,hrow.lt,⟨vs,T,(hheap _ hB').trans h3,h4⟩,λo ho=>(hmem _ hB' o).trans (hrow.free o ho),hrow.mine⟩
 .obtain ⟨h1,h2⟩:=h.cllt p B hB;exact⟨ZV h1 hf.size,h2⟩
theorem RS.drew(h:RS E G s a w):RS E G s a {w with drawn:=w.drawn+1}:=
 h.grow (M':=G.M) ⟨rfl,rfl,rfl,zG _,Hp.le_refl _,λ_ _ _=>rfl,λ_ _ _ _=>rfl⟩ h.ok
theorem db{σ:Nat->Nat}(a:Act)(w:World)(k:Nat)(v:Value)(p:Pl)(hk:k<a.tmps.size):au σ (a.put (some k) v) w p=if p=.sl k then v else au σ a w p:=by
 cases p with
 |sl t=>
  simp only[au,Act.put]
  by_cases h:t=k
  .subst h;simp[hk]
  .rw [if_neg (by simpa using h)]
   simp[zW (Ne.symm h)]
 |bx b j=>simp[au]
theorem RS.put(h:RS E G s a w){k:Nat}(hk:k<E.nt){x:AV}{v:Value}(hx:RV G.M G.σ s.bs.length x v):RS E G (s.put (some k) x) (a.put (some k) v) w:=by
 have hk':k<a.tmps.size:=by rw[h.nt];exact hk
 have hbs:(s.put (some k) x).bs=s.bs:=rfl;refine⟨h.fr,h.ok,?_,λp y hy=>?_,λb j y hy=>?_,h.box,h.bmem,h.inj,λp z l hp=>?_,h.clinj,h.clbox,h.cllt,h.lo,h.len,h.sig,h.sp⟩
 .simp [Act.put,h.nt]
 .rw [St.eF] at hy;rw[db a w k v p hk']
  by_cases hp:p=.sl k
  .rw [if_pos hp] at hy|-;cases hy;rw[hx.cm];exact hx
  .rw [if_neg hp] at hy|-;exact h.val p y hy
 .rw [St.eF,if_neg (by simp)] at hy
  rw[db a w k v _ hk',if_neg (by simp)]
  exact h.one b j y hy
 .rw [St.eF] at hp;rw[db a w k v p hk']
  by_cases hpk:p=.sl k
  .rw [if_pos hpk] at hp;cases hp;have:=hx.cm;simp[AV.aG] at this
  .rw [if_neg hpk] at hp|-;exact h.own p z l hp
theorem RS.Ob(h:RS E G s a w){d:Option Nat}(hd:∀k,d=some k->k<E.nt){x:AV}{v:Value}(hx:RV G.M G.σ s.bs.length x v):RS E G (s.put d x) (a.put d v) w:=by
 cases d with
 |none=>exact h
 |some k=>exact h.put (hd k rfl) hx
theorem St.fw(s:St){q:Pl}{y:AV}(hq:s.at q=some y)(x:AV)(p:Pl):(s.upd q x).at p=if p=q then some x else s.at p:=by
 cases q with
 |sl t=>exact St.eF s t x p
 |bx b j=>
  simp only[St.at] at hq
  cases hb:ab s.bs b with
  |none=>rw[hb] at hq;cases hq
  |some cs=>
   rw[hb] at hq;simp only[ZG] at hq;simp only[St.upd,hb]
   cases p with
   |sl t=>simp[St.at,St.bz]
   |bx b' j'=>
    simp only[St.at,St.bz,dR hb]
    by_cases e:b'=b
    .subst e;rw[if_pos rfl];simp only[ZG,zq]
     have hj:j<cs.length:=by
      rcases zt j cs.length with h1|h1
      .exact h1
      .rw [zR h1] at hq;cases hq
     by_cases e2:j=j'
     .subst e2;simp[hj]
     .rw [if_neg e2,if_neg (by simpa using λx=>e2 x.symm),hb];rfl
    .rw [if_neg e,if_neg (by simp[e])]
theorem St.fT(s:St)(q:Pl)(x:AV):(s.upd q x).bs.length=s.bs.length:=by
 cases q with
 |sl t=>rfl
 |bx b j=>
  simp only[St.upd];cases ab s.bs b<;>simp[St.bz]
theorem St.sR(s:St)(q:Pl)(x:AV):(s.upd q x).lo=s.lo:=by
 cases q with
 |sl t=>rfl
 |bx b j=>
  simp only[St.upd];cases ab s.bs b<;>rfl
theorem St.bC(s:St)(q:Pl)(x:AV)(b:Nat)(cs:List AV)(h:ab (s.upd q x).bs b=some cs):∃ds,ab s.bs b=some ds/\ds.length=cs.length:=by
 cases q with
 |sl t=>exact⟨cs,h,rfl⟩
 |bx c j=>
  simp only[St.upd] at h
  cases hb:ab s.bs c with
  |none=>rw[hb] at h;exact⟨cs,h,rfl⟩
  |some es=>
   rw[hb] at h;simp only[St.bz,dR hb] at h
   by_cases e:b=c
   .subst e;rw[if_pos rfl] at h;cases h;exact⟨es,hb,by simp⟩
   .rw [if_neg e] at h;exact⟨cs,h,rfl⟩
theorem St.lx{s:St}{q:Pl}{x:AV}{b:Nat}{y:LB}(h:ag (s.upd q x).bs b=some y):ag s.bs b=some y:=by
 cases q with
 |sl t=>exact h
 |bx c j=>
  simp only[St.upd] at h
  cases hb:ab s.bs c with
  |none=>rw[hb] at h;exact h
  |some es=>rw[hb] at h;exact Fu h
theorem RS.upd(h:RS E G s a w){q:Pl}{y x:AV}(hq:s.at q=some y)(hx:RV G.M G.σ s.bs.length x (au G.σ a w q)):RS E G (s.upd q x) a w:=by
 refine⟨h.fr,h.ok,h.nt,λp u hu=>?_,λb j u hu=>?_,λb cs hb=>?_,λb cs hb=>?_,λb b' cs cs' hb hb' e=>?_,λp z l hp=>?_,h.clinj,λp B hB b cs hb=>?_,h.cllt,(St.sR s q x).trans h.lo,by rw[St.fT];exact h.len,h.sig,h.sp.loops λ_ _ k=>St.lx k⟩
 .rw [St.fw s hq] at hu;rw[St.fT]
  by_cases hp:p=q
  .rw [if_pos hp] at hu;cases hu;rw[hx.cm,hp];exact hx
  .rw [if_neg hp] at hu;exact h.val p u hu
 .rw [St.fw s hq] at hu
  by_cases hp:Pl.bx b j=q
  .rw [if_pos hp] at hu;exact h.one b j y (hp▸hq)
  .rw [if_neg hp] at hu;exact h.one b j u hu
 .obtain ⟨ds,h1,h2⟩:=s.bC q x b cs hb;obtain⟨vs,T,h3,h4⟩:=h.box b ds h1;exact⟨vs,T,h3,ZO (by omega) h4⟩
 .obtain ⟨ds,h1,h2⟩:=s.bC q x b cs hb;exact h.bmem b ds h1
 .obtain ⟨ds,h1,_⟩:=s.bC q x b cs hb;obtain⟨ds',h1',_⟩:=s.bC q x b' cs' hb';exact h.inj b b' ds ds' h1 h1' e
 .rw [St.fw s hq] at hp
  by_cases hpq:p=q
  .rw [if_pos hpq] at hp;cases hp;have:=hx.cm;simp[AV.aG] at this
  .rw [if_neg hpq] at hp;exact h.own p z l hp
 .obtain ⟨ds,h1,_⟩:=s.bC q x b cs hb;exact h.clbox p B hB b ds h1
theorem RS.move(h:RS E G s a w){p q:Pl}{z:Nat}{l:List AV}{o:Cap}(hpq:p≠q)(hp:s.at p=some (.sl (.own z) l))(hq:s.at q=some (.sl o l))
  (he:au G.σ a w q=au G.σ a w p):RS E {G with cl:=λr=>if r=q then G.cl p else if r=p then none else G.cl r} ((s.upd p (.sl .no l)).upd q (.sl (.own z) l)) a w:=by
 have hvp:=h.val p _ hp;have h1:RS E G (s.upd p (.sl .no l)) a w:=h.upd hp hvp;have hq1:(s.upd p (.sl .no l)).at q=some (.sl o l):=by rw[St.fw s hp,if_neg (Ne.symm hpq)];exact hq
 have hat:∀r,((s.upd p (.sl .no l)).upd q (.sl (.own z) l)).at r=if r=q then some (.sl (.own z) l) else if r=p then some (.sl .no l) else s.at r:=λr=>by
  rw[St.fw _ hq1,St.fw s hp]
 have hbox:∀b cs,ab ((s.upd p (.sl .no l)).upd q (.sl (.own z) l)).bs b=some cs->∃ds,ab s.bs b=some ds/\ds.length=cs.length:=λb cs hb=>by
  obtain⟨ds,h2,h3⟩:=St.bC _ q _ b cs hb;obtain⟨es,h4,h5⟩:=St.bC s p _ b ds h2;exact⟨es,h4,h5.trans h3⟩
 have hlen:((s.upd p (.sl .no l)).upd q (.sl (.own z) l)).bs.length=s.bs.length:=by rw[St.fT,St.fT]
 refine⟨h.fr,h.ok,h.nt,λr u hu=>?_,λb j u hu=>?_,λb cs hb=>?_,λb cs hb=>?_,λb b' cs cs' hb hb' e=>?_,λr z' l' hr=>?_,λr r' B hr hr'=>?_,λr B hB b cs hb=>?_,λr B hB=>?_,(St.sR _ q _).trans ((St.sR s p _).trans h.lo),by rw[hlen];exact h.len,h.sig,h.sp.step (Hp.le_refl _) (λ_ _=>rfl) (λ_ _ k=>St.lx (St.lx k)) (λ_ _ k _=>k) (λB _ _ _ r k=>?_) (λ_ k=>k)⟩
 .rw [hat] at hu;rw[hlen]
  by_cases hr:r=q
  .rw [if_pos hr] at hu;cases hu;subst hr;rw[he];exact hvp
  .rw [if_neg hr] at hu
   by_cases hr2:r=p
   .rw [if_pos hr2] at hu;cases hu;subst hr2;exact hvp
   .rw [if_neg hr2] at hu;exact h.val r u hu
 .rw [hat] at hu
  by_cases hr:Pl.bx b j=q
  .exact h.one b j _ (hr▸hq)
  .rw [if_neg hr] at hu
   by_cases hr2:Pl.bx b j=p
   .exact h.one b j _ (hr2▸hp)
   .rw [if_neg hr2] at hu;exact h.one b j u hu
 .obtain ⟨ds,h2,h3⟩:=hbox b cs hb;obtain⟨vs,T,h4,h5⟩:=h.box b ds h2;exact⟨vs,T,h4,ZO (by omega) h5⟩
 .obtain ⟨ds,h2,h3⟩:=hbox b cs hb;exact h.bmem b ds h2
 .obtain ⟨ds,h2,h3⟩:=hbox b cs hb;obtain⟨ds',h2',h3'⟩:=hbox b' cs' hb';exact h.inj b b' ds ds' h2 h2' e
 .rw [hat] at hr
  by_cases hrq:r=q
  .rw [if_pos hrq] at hr;cases hr;obtain⟨ad,k,h2,hz,h3⟩:=h.own p z l hp;refine⟨ad,k,by rw[hrq];exact he.trans h2,hz,?_⟩
   rcases h3 with h3|⟨B,hB,h4,h5⟩
   .exact .inl h3
   .exact .inr ⟨B,by simp only[hrq,if_true];exact hB,h4,h5⟩
  .rw [if_neg hrq] at hr
   by_cases hrp:r=p
   .rw [if_pos hrp] at hr;cases hr
   .rw [if_neg hrp] at hr;obtain⟨ad,k,h2,hz,h3⟩:=h.own r z' l' hr;refine⟨ad,k,h2,hz,?_⟩;rcases h3 with h3|⟨B,hB,h4,h5⟩
    .exact .inl h3
    .exact .inr ⟨B,by simp only[hrq,hrp,if_false];exact hB,h4,h5⟩
 .simp only at hr hr'
  by_cases hrq:r=q
  .rw [if_pos hrq] at hr
   by_cases hrq':r'=q
   .rw [hrq,hrq']
   .rw [if_neg hrq'] at hr'
    by_cases hrp':r'=p
    .rw [if_pos hrp'] at hr';cases hr'
    .rw [if_neg hrp'] at hr';exact absurd (h.clinj _ _ B hr' hr) hrp'
  .rw [if_neg hrq] at hr
   by_cases hrp:r=p
   .rw [if_pos hrp] at hr;cases hr
   .rw [if_neg hrp] at hr
    by_cases hrq':r'=q
    .rw [if_pos hrq'] at hr';exact absurd (h.clinj _ _ B hr hr') hrp
    .rw [if_neg hrq'] at hr'
     by_cases hrp':r'=p
     .rw [if_pos hrp'] at hr';cases hr'
     .rw [if_neg hrp'] at hr';exact h.clinj _ _ B hr hr'
 .obtain ⟨ds,h2,h3⟩:=hbox b cs hb;simp only at hB
  by_cases hrq:r=q
  .rw [if_pos hrq] at hB;exact h.clbox p B hB b ds h2
  .rw [if_neg hrq] at hB
   by_cases hrp:r=p
   .rw [if_pos hrp] at hB;cases hB
   .rw [if_neg hrp] at hB;exact h.clbox r B hB b ds h2
 .simp only at hB
  by_cases hrq:r=q
  .rw [if_pos hrq] at hB;exact h.cllt p B hB
  .rw [if_neg hrq] at hB
   by_cases hrp:r=p
   .rw [if_pos hrp] at hB;cases hB
   .rw [if_neg hrp] at hB;exact h.cllt r B hB
 .simp only at k
  by_cases hrq:r=q
  .rw [if_pos hrq] at k;exact⟨p,k⟩
  .rw [if_neg hrq] at k
   by_cases hrp:r=p
   .rw [if_pos hrp] at k;cases k
   .rw [if_neg hrp] at k;exact⟨r,k⟩
theorem RS.forget(h:RS E G s a w){s':St}{n:Nat}(hn:s'.bs.length=n)(hlo:s'.lo=s.lo)(hlon:s.lo<=n)(hat:∀p x,s'.at p=some x->s.at p=some x/\x.lt n=true)
  (hb:∀b cs,ab s'.bs b=some cs->ab s.bs b=some cs) (hbl:∀b x,ag s'.bs b=some x->ag s.bs b=some x):RS E G s' a w:=by
 subst hn;refine⟨h.fr,h.ok,h.nt,λp x hx=>?_,λb j x hx=>h.one b j x (hat _ _ hx).1,λb cs k=>h.box b cs (hb _ _ k),λb cs k=>h.bmem b cs (hb _ _ k),λb b' cs cs' k k'=>h.inj b b' cs cs' (hb _ _ k) (hb _ _ k'),λp z l hp=>h.own p z l (hat _ _ hp).1,h.clinj,λp B hB b cs k=>h.clbox p B hB b cs (hb _ _ k),h.cllt,hlo.trans h.lo,by rw[<-h.lo];exact hlon,h.sig,h.sp.loops hbl⟩
 obtain⟨h1,h2⟩:=hat p x hx;exact(h.val p x h1).lt (by rw[wM];exact h2)
theorem RS.aZ(h:RS E G s a w){p:Pl}{l:List AV}(hp:s.at p=some (.sl .full l)){z:Nat}(hz:∀y∈l,y.cells.length=z):RS E G (s.upd p (.sl (.own z) l)) a w:=by
 have hv:=h.val p _ hp;simp only[AV.aG] at hv;refine⟨h.fr,h.ok,h.nt,λr u hu=>?_,λb j u hu=>?_,λb cs hb=>?_,λb cs hb=>?_,λb b' cs cs' hb hb' e=>?_,λr z' l' hr=>?_,h.clinj,λr B hB b cs hb=>?_,h.cllt,(St.sR s p _).trans h.lo,by rw[St.fT];exact h.len,h.sig,h.sp.loops λ_ _ k=>St.lx k⟩
 .rw [St.fw s hp] at hu;rw[St.fT]
  by_cases hr:r=p
  .rw [if_pos hr] at hu;cases hu;rw[hr];exact hv.ax
  .rw [if_neg hr] at hu;exact h.val r u hu
 .rw [St.fw s hp] at hu
  by_cases hr:Pl.bx b j=p
  .exact h.one b j _ (hr▸hp)
  .rw [if_neg hr] at hu;exact h.one b j u hu
 .obtain ⟨ds,h1,h2⟩:=s.bC p _ b cs hb;obtain⟨vs,T,h3,h4⟩:=h.box b ds h1;exact⟨vs,T,h3,ZO (by omega) h4⟩
 .obtain ⟨ds,h1,h2⟩:=s.bC p _ b cs hb;exact h.bmem b ds h1
 .obtain ⟨ds,h1,_⟩:=s.bC p _ b cs hb;obtain⟨ds',h1',_⟩:=s.bC p _ b' cs' hb';exact h.inj b b' ds ds' h1 h1' e
 .rw [St.fw s hp] at hr
  by_cases hrp:r=p
  .rw [if_pos hrp] at hr;cases hr;obtain⟨ad,k,B,off,sz,h1,_,_,_,h2,_⟩:=hv.fi;exact⟨ad,k,by rw[hrp];exact h1,hz,.inl (h2 rfl)⟩
  .rw [if_neg hrp] at hr;exact h.own r z' l' hr
 .obtain ⟨ds,h1,_⟩:=s.bC p _ b cs hb;exact h.clbox r B hB b ds h1
end
end Go.AM
namespace Go.AM
open Go.CK Go.RowKit
def F0(rd:Option Nat):Fence:={Fence.wide with round:=rd}
inductive Opd where
 |t (k:Nat)
 |c (x:AV)
deriving Inhabited
def qc:Value->Option AV
 |.bool b=>some (.bool b)
 |.int k n=>some (.int k n)
 |.string s=>if s.size<=lim then some (.str s) else none
 |.pointer none=>some .uL
 |.slice none 0 0=>some (.sl .full [])
 |.map none=>some .nmp
 |.nilFunc=>some .nfn
 |.nilIface=>some .wE
 |_=>none
def qb:List Value->Option (List AV)
 |[]=>some []
 |v::vs=>match qc v,qb vs with
  |some x,some xs=>some (x::xs)
  |_,_=>none
def dB:Value->Option AV
 |.agg cs=>(qb cs.toList).map .agg
 |v=>qc v
theorem Fz{M:Hp}{v:Value}{x:AV}(h:qc v=some x):FV M x v/\v.oneCell'=true:=by
 unfold qc at h;split at h<;>first|(cases h;done)|skip
 .cases h;exact⟨.bool _,rfl⟩
 .cases h;exact⟨.int _ _,rfl⟩
 .split at h
  .rename_i hs;cases h;exact⟨.str _ hs,rfl⟩
  .cases h
 .cases h;exact⟨.uL,rfl⟩
 .cases h;exact⟨.sl .full [] none 0 0 0 0 (by simp) (zG _) (by simp) (λ_=>rfl) (by simp) (λi h=>by cases h) (λi h=>by cases h) (λi h=>by cases h),rfl⟩
 .cases h;exact⟨.nmp,rfl⟩
 .cases h;exact⟨.nfn,rfl⟩
 .cases h;exact⟨.wE,rfl⟩
theorem xK{M:Hp}:∀{vs:List Value} {xs:List AV},qb vs=some xs->vs.length=xs.length/\(∀v∈vs,v.oneCell'=true)/\∀j (h:j<xs.length) v,vs[j]? =some v->FV M xs[j] v
 |[],xs,h=>by
  cases h
  exact⟨rfl,(λv hv=>by cases hv),(λj hj=>by cases hj)⟩
 |v::vs,xs,h=>by
  simp only[qb] at h;split at h
  .rename_i x xs' h1 h2;cases h;obtain⟨a1,a2⟩:=Fz (M:=M) h1;obtain⟨b1,b2,b3⟩:=xK (M:=M) h2;refine⟨by simp[b1],λu hu=>?_,λj hj u hu=>?_⟩
   .rcases zI.1 hu with rfl|hu
    .exact a2
    .exact b2 u hu
   .cases j with
    |zero=>simp at hu;subst hu;exact a1
    |succ j=>simp at hu;simp at hj;exact b3 j hj u hu
  .cases h
theorem fZ{M:Hp}{v:Value}{x:AV}(h:dB v=some x):FV M x v:=by
 unfold dB at h;split at h
 .rename_i cs
  cases hc:qb cs.toList with
  |none=>rw[hc] at h;cases h
  |some xs=>
   rw[hc] at h;cases h;obtain⟨h1,h2,h3⟩:=xK (M:=M) hc;have:=FV.agg xs cs.toList h1 h2 h3;simpa using this
 .exact (Fz h).1
def opd:Operand->Option Opd
 |.tmp t=>some (.t t)
 |.const v=>(dB v).map .c
 |.func f=>some (.c (.fn (.func f) [] []))
 |.global _=>none
def St.ev(s:St):Opd->AV
 |.t k=>(s.get k).aG
 |.c x=>x
theorem St.get_at{s:St}{k:Nat}:s.get k=(s.at (.sl k)).getD .top:=by
 simp only[St.get,St.at];cases aq s.env k<;>rfl
section
variable{E:Entry}{G:Gh}{s:St}{a:Act}{w:World}{P:Program}
theorem RS.OG(h:RS E G s a w)(k:Nat):RV G.M G.σ s.bs.length (s.get k).aG (a.tmps.getD k undef):=by
 rw[St.get_at]
 cases hk:s.at (.sl k) with
 |none=>exact .flat (.top _)
 |some x=>exact h.val (.sl k) x hk
theorem RS.ev(h:RS E G s a w){o:Operand}{r:Opd}(ho:opd o=some r):RV G.M G.σ s.bs.length (s.ev r) (a.eval o):=by
 cases o with
 |tmp t=>cases ho;exact h.OG t
 |const v=>
  simp only[opd] at ho
  cases hv:dB v with
  |none=>rw[hv] at ho;cases ho
  |some x=>rw[hv] at ho;cases ho;exact .flat (fZ hv)
 |func f=>cases ho;exact .fn _ [] [] [] [] rfl rfl (λj h=>by cases h) (λj h=>by cases h)
 |global g=>cases ho
end
def bq:List Operand->Option (List Opd)
 |[]=>some []
 |o::os=>match opd o,bq os with
  |some r,some rs=>some (r::rs)
  |_,_=>none
theorem Eb:∀{os:List Operand} {rs:List Opd},bq os=some rs->os.length=rs.length/\∀(i:Nat) (o:Operand),os[i]? =some o->∃r,rs[i]? =some r/\opd o=some r
 |[],rs,h=>by cases h;exact⟨rfl,λi o ho=>by cases ho⟩
 |o::os,rs,h=>by
  simp only[bq] at h;split at h
  .rename_i r rs' h1 h2;cases h;obtain⟨h3,h4⟩:=Eb h2;refine⟨by simp[h3],λi o' ho=>?_⟩
   cases i with
   |zero=>simp at ho;subst ho;exact⟨r,rfl,h1⟩
   |succ i=>simp at ho;simpa using h4 i o' ho
  .cases h
def OpS(P:Program)(o:Oper)(s:St)(K:St->Prop):Prop:=
 ∀(E:Entry) (G:Gh) (a:Act) (w:World) (rd:Option Nat) (n:Nat) (next:Act->World->Prop) (Q:Exit->Act->World->Prop),RS E G s a w->(∀d,o.dst=some d->d<E.nt)->
  (∀s' G' a' w',K s'->RS E G' s' a' w'->a'.defers=a.defers->next a' w')->o.wpIn (F0 rd) n P a w next Q
theorem put_defers(a:Act)(d:Option Tmp)(v:Value):(a.put d v).defers=a.defers:=by cases d<;>rfl
theorem OpS.val{P:Program}{o:Oper}{s:St}{K:St->Prop}(x:AV)(s':St)(hd:∀c,o.op≠.defer c)(hK:K (s'.put o.dst x))
  (h:∀E G a w,RS E G s a w->∃v G' w',(execOp a.eval o).run P w=.ok (.value v) w'/\RS E G' s' a w'/\RV G'.M G'.σ s'.bs.length x v):OpS P o s K:=by
 intro E G a w rd n next Q hs hdst hnext
 obtain⟨v,G',w',h1,h2,h3⟩:=h E G a w hs;refine⟨λ_ _=>trivial,?_⟩;rw[Oper.semAt_eq _ _ _ hd,h1];exact hnext _ G' _ w' hK (h2.Ob hdst h3) (put_defers _ _ _)
theorem OpS.pure{P:Program}{o:Oper}{s:St}{K:St->Prop}(x:AV)(hd:∀c,o.op≠.defer c)(hK:K (s.put o.dst x))
  (h:∀E G a w,RS E G s a w->∃v,(execOp a.eval o).run P w=.ok (.value v) w/\RV G.M G.σ s.bs.length x v):OpS P o s K:=
 OpS.val x s hd hK λE G a w hs=>let ⟨v,h1,h2⟩:=h E G a w hs;⟨v,G,w,h1,hs,h2⟩
theorem OpS.skip{P:Program}{o:Oper}{s:St}{K:St->Prop}(s':St)(hd:∀c,o.op≠.defer c)(hn:o.dst=none)(hK:K s')
  (h:∀E G a w,RS E G s a w->∃G' w',(execOp a.eval o).run P w=.ok .skip w'/\RS E G' s' a w'):OpS P o s K:=by
 intro E G a w rd n next Q hs hdst hnext
 obtain⟨G',w',h1,h2⟩:=h E G a w hs;refine⟨λ_ _=>trivial,?_⟩;rw[Oper.semAt_eq _ _ _ hd,h1];show next (a.put o.dst undef) w'
 rw[hn];exact hnext s' G' a w' hK h2 rfl
def req(b:Bool)(K:Prop):Prop:=match b with
 |true=>K
 |false=>False
theorem af{b:Bool}{K:Prop}:req b K↔b=true/\K:=by cases b<;>simp[req]
def Da(op:BinOp)(a b:AV)(K:AV->Prop):Prop:=
 match a,b with
 |.int k x,.int k' y=>req (decide (k=k')) (match op with
  |.add=>K (.int k (k.wrap (x+y)))
  |.sub=>K (.int k (k.wrap (x-y)))
  |.mul=>K (.int k (k.wrap (x*y)))
  |.quo=>y≠0/\K (.int k (k.wrap (x.tdiv y)))
  |.rem=>y≠0/\K (.int k (x.tmod y))
  |.eql=>K (.bool (decide (x=y)))
  |.neq=>K (.bool (!decide (x=y)))
  |.lss=>K (.bool (decide (x<y)))
  |.leq=>K (.bool (decide (x<=y)))
  |.gtr=>K (.bool (decide (y<x)))
  |.geq=>K (.bool (decide (y<=x)))
  |_=>False)
 |.str x,.str y=>match op with
  |.add=>x.size+y.size<=lim/\K (.str (x++y))
  |.eql=>K (.bool (decide (x=y)))
  |.neq=>K (.bool (!decide (x=y)))
  |.lss=>K (.bool (Op.bytesLess x.toList y.toList))
  |.leq=>K (.bool (Op.bytesLess x.toList y.toList||decide (x=y)))
  |.gtr=>K (.bool (!(Op.bytesLess x.toList y.toList||decide (x=y))))
  |.geq=>K (.bool (!Op.bytesLess x.toList y.toList))
  |_=>False
 |_,_=>False
theorem bytes_inj{s t:ByteArray}:s.toList=t.toList↔s=t:=by
 rw[ByteArray.toList_eq,ByteArray.toList_eq];exact⟨λh=>ByteArray.ext (Array.toList_inj.mp h),λh=>by rw[h]⟩
theorem vj(x y:ByteArray):(x.toList==y.toList)=decide (x=y):=by
 rw[Bool.eq_iff_iff];simp[bytes_inj]
theorem fO(P:Program)(ρ:Operand->Value)(o:Oper){op:BinOp}{t u:TypeId}{x y:Operand}(ho:o.op=.binOp op t x y u)(w:World)(hx:∀cs,ρ x≠.agg cs)(hn:ρ x≠.nilIface):
  (execOp ρ o).run P w=((binOp op t (ρ x) (ρ y)).run P w).andThen λv w'=>.ok (.value v) w':=by
 have hg:(eqGuard op t x y (ρ x) (ρ y)).run P w=.ok () w:=by
  clear ho;cases op<;>first|rfl|(cases hv:ρ x<;>first|(exact absurd hv (hx _))|(exact absurd hv hn)|(cases ρ y<;>rfl))
 unfold execOp;simp only[ho,yj,hg,yi,yk]
theorem He{P:Program}{s:St}{o:Oper}{op:BinOp}{t u:TypeId}{x y:Operand}(ho:o.op=.binOp op t x y u){rx ry:Opd}(hx:opd x=some rx)(hy:opd y=some ry){K:St->Prop}
  (h:Da op (s.ev rx) (s.ev ry) λr=>K (s.put o.dst r)):OpS P o s K:=by
 have hd:∀c,o.op≠.defer c:=λc e=>by rw[ho] at e;cases e
 unfold Da at h;split at h
 .rename_i k p k' q e1 e2;obtain⟨hk0,h2⟩:=af.1 h;have hk:=of_decide_eq_true hk0;clear h hk0;subst hk;have h:=h2;clear h2
  have hrun:∀E G a w,RS E G s a w->a.eval x=.int k p/\a.eval y=.int k q:=λE G a w hs=>
   ⟨by have:=hs.ev hx;rw[e1] at this;exact this.aI,by have:=hs.ev hy;rw[e2] at this;exact this.aI⟩
  have fin:∀r v,K (s.put o.dst r)->(∀M,FV M r v)->(∀w,(binOp op t (.int k p) (.int k q)).run P w=.ok v w)->OpS P o s K:=λr v hK hv hr=>
   OpS.pure r hd hK λE G a w hs=>by
    obtain⟨h1,h2⟩:=hrun E G a w hs;refine⟨v,?_,.flat (hv _)⟩;rw[fO P _ o ho w (by rw[h1];simp) (by rw[h1];simp),h1,h2,hr w];rfl
  cases op
  case add=>exact fin _ _ h (λ_=>.int _ _) λw=>by simp[binOp,Op.intArith]
  case sub=>exact fin _ _ h (λ_=>.int _ _) λw=>by simp[binOp,Op.intArith]
  case mul=>exact fin _ _ h (λ_=>.int _ _) λw=>by simp[binOp,Op.intArith]
  case quo=>exact fin _ _ h.2 (λ_=>.int _ _) λw=>by simp[binOp,Op.intDiv,h.1]
  case rem=>exact fin _ _ h.2 (λ_=>.int _ _) λw=>by simp[binOp,Op.intDiv,h.1]
  case eql=>exact fin _ _ h (λ_=>.bool _) λw=>by simp[binOp,Op.intCmp];rfl
  case neq=>exact fin _ _ h (λ_=>.bool _) λw=>by simp[binOp,Op.intCmp];rfl
  case lss=>exact fin _ _ h (λ_=>.bool _) λw=>by simp[binOp,Op.intCmp]
  case leq=>exact fin _ _ h (λ_=>.bool _) λw=>by simp[binOp,Op.intCmp]
  case gtr=>exact fin _ _ h (λ_=>.bool _) λw=>by simp[binOp,Op.intCmp]
  case geq=>exact fin _ _ h (λ_=>.bool _) λw=>by simp[binOp,Op.intCmp]
  all_goals exact h.elim
 .rename_i p q e1 e2
  have hrun:∀E G a w,RS E G s a w->a.eval x=.string p/\a.eval y=.string q:=λE G a w hs=>
   ⟨by have:=hs.ev hx;rw[e1] at this;exact this.eo.1,by have:=hs.ev hy;rw[e2] at this;exact this.eo.1⟩
  have fin:∀r v,K (s.put o.dst r)->(∀M,FV M r v)->(∀w,(binOp op t (.string p) (.string q)).run P w=.ok v w)->OpS P o s K:=λr v hK hv hr=>
   OpS.pure r hd hK λE G a w hs=>by
    obtain⟨h1,h2⟩:=hrun E G a w hs;refine⟨v,?_,.flat (hv _)⟩;rw[fO P _ o ho w (by rw[h1];simp) (by rw[h1];simp),h1,h2,hr w];rfl
  cases op
  case add=>
   refine fin _ _ h.2 (λ_=>.str _ (by have h1:=h.1;rw[ByteArray.size_append];exact h1)) λw=>?_
   have h1:=h.1;have:¬((p.size+q.size:Nat):Int)>IntKind.i64.max:=by ((try unfold glim at h1);(try unfold lim at h1));simp[IntKind.max,IntKind.signed,IntKind.bits];omega
   simp only[binOp,Op.stringOp,if_neg this,yk]
  case eql=>exact fin _ _ h (λ_=>.bool _) λw=>by simp[binOp,Op.stringOp,vj]
  case neq=>exact fin _ _ h (λ_=>.bool _) λw=>by simp[binOp,Op.stringOp,vj]
  case lss=>exact fin _ _ h (λ_=>.bool _) λw=>by simp[binOp,Op.stringOp]
  case leq=>exact fin _ _ h (λ_=>.bool _) λw=>by simp[binOp,Op.stringOp,vj]
  case gtr=>exact fin _ _ h (λ_=>.bool _) λw=>by simp[binOp,Op.stringOp,vj]
  case geq=>exact fin _ _ h (λ_=>.bool _) λw=>by simp[binOp,Op.stringOp]
  all_goals exact h.elim
 .exact h.elim
end Go.AM
