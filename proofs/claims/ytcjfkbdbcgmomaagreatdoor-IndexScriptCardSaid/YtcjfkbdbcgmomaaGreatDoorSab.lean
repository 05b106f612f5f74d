/-
  Texts of this aV joined (wip/gen/bundle.py),those declarations only that are needed:AmS AmO. By an AI agent.
-/
import Derived.Test.YtcjfkbdbcgmomaaGreatDoorSaa
import Derived.CallsIn
set_option linter.unusedSimpArgs false
set_option linter.unusedVariables false
namespace Go.AM
open Go.CK Go.RowKit
structure LB where
 M:Hp
 σ:Nat->Nat
 n:Nat
 r:Loop
 mp:Option (List MapEntry×Nat):=none
 rows:List (Nat×Nat×Obj):=[]
def n9:AV->Value
 |.bool b=>.bool b
 |.int k n=>.int k n
 |_=>.agg #[]
def vOf:AV->Value
 |.bool b=>.bool b
 |.int k n=>.int k n
 |.agg cs=>.agg (cs.map n9).toArray
 |_=>.agg #[]
def lk:Nat->List (Int×AV)->List MapEntry
 |_,[]=>[]
 |i,(k,x)::l=>{key:=.int .i64 k,val:=vOf x,born:=i}::lk (i+1) l
def dF(l:List (Int×AV)):Array MapEntry:=(lk 0 l).toArray
def LB.obj(x:LB):Obj:=match x.mp with
 |none=>.loop x.r
 |some (es,n)=>.map es.toArray n
def LB.rs(x:LB):List (Nat×Nat×Obj):=match x.mp with
 |none=>[]
 |some _=>x.rows
theorem LB.IT{x:LB}(h:x.mp=none):x.rs=[]:=by unfold LB.rs;rw[h]
theorem LB.pF{x:LB}(h:x.mp=none):x.obj=.loop x.r:=by unfold LB.obj;rw[h]
theorem LB.C4(x:LB):x.obj.isCells=false:=by
 unfold LB.obj;cases x.mp<;>rfl
theorem LB.C5(x:LB){d:Option (List Deferred)}(h:some (Obj.deferred d)=some x.obj):False:=by
 unfold LB.obj at h;cases hx:x.mp<;>rw[hx] at h<;>cases h
theorem LB.yd(x:LB){vs:Array Value}{T:TypeId}{q:Nat×Nat}(h:some (Obj.cells vs T q)=some x.obj):False:=by
 have:=x.C4;cases h':x.obj<;>rw[h'] at h this<;>first|(cases h;done)|cases this
def mLB(es:List MapEntry)(n:Nat):LB:=⟨λ_ _=>none,λ_=>0,0,default,some (es,n),[]⟩
def yg(l:List (Int×AV)):LB:=mLB (lk 0 l) l.length
def mqE(l:List (Int×AV×Nat)):List MapEntry:=l.map λe=>{key:=.int .i64 e.1,val:=vOf e.2.1,born:=e.2.2}
structure TB where
 es:List MapEntry
 c:Nat
 rows:List (Nat×Nat×Obj)
def TB.lb(x:TB):LB:=⟨λ_ _=>none,λ_=>0,0,default,some (x.es,x.c),x.rows⟩
inductive Box where
 |cells (cs:List AV)
 |dead
 |loop (x:LB)
 |row (cs:List AV)
 |mp (l:List (Int×AV))
 |mq (l:List (Int×AV×Nat)) (c:Nat)
 |tab (x:TB)
instance:Inhabited Box:=⟨.dead⟩
def aq:List (Nat×AV)->Nat->Option AV
 |[],_=>none
 |(t,v)::r,k=>match Nat.beq t k with
  |true=>some v
  |false=>aq r k
def aM:List (Nat×AV)->Nat->AV->List (Nat×AV)
 |[],k,v=>[(k,v)]
 |(t,u)::r,k,v=>match Nat.beq t k with
  |true=>(k,v)::r
  |false=>match Nat.blt k t with
   |true=>(k,v)::(t,u)::r
   |false=>(t,u)::aM r k v
def eR(f:Nat->Bool):List (Nat×AV)->List (Nat×AV)
 |[]=>[]
 |(t,v)::r=>match f t with
  |true=>(t,v)::eR f r
  |false=>eR f r
theorem cu{a b:Nat}(h:¬a=b):Nat.beq a b=false:=by
 cases hb:Nat.beq a b with
 |false=>rfl
 |true=>exact absurd (zP hb) h
theorem fC:∀(e:List (Nat×AV)) (k:Nat) (v:AV) (j:Nat),aq (aM e k v) j=if j=k then some v else aq e j
 |[],k,v,j=>by
  simp only[aM,aq]
  by_cases h:k=j
  .subst h;simp
  .rw [if_neg (λe=>h e.symm)];have:Nat.beq k j=false:=cu h
   rw[this]
 |(t,u)::r,k,v,j=>by
  simp only[aM]
  by_cases h:t=k
  .subst h;have:Nat.beq t t=true:=by simp
   rw[this];simp only[aq]
   by_cases h2:t=j
   .subst h2;simp
   .have:Nat.beq t j=false:=cu h2;rw[this,if_neg (λe=>h2 e.symm)]
  .have hk:Nat.beq t k=false:=cu h;rw[hk];simp only
   cases hb:Nat.blt k t with
   |true=>
    simp only[aq]
    by_cases h2:k=j
    .subst h2;simp
    .have:Nat.beq k j=false:=cu h2
     rw[this,if_neg (λe=>h2 e.symm)]
   |false=>
    simp only[aq]
    by_cases h2:t=j
    .subst h2;have:Nat.beq t t=true:=by simp
     rw[this,if_neg h]
    .have:Nat.beq t j=false:=cu h2;rw[this];exact fC r k v j
theorem nF(f:Nat->Bool):∀(e:List (Nat×AV)) (j:Nat) (v:AV),aq (eR f e) j=some v->aq e j=some v/\f j=true
 |[],j,v,h=>by cases h
 |(t,u)::r,j,v,h=>by
  simp only[eR] at h
  cases hf:f t with
  |true=>
   rw[hf] at h;simp only[aq] at h|-
   cases hb:Nat.beq t j with
   |true=>rw[hb] at h;simp only at h;have:=zP hb;subst this;exact⟨h,hf⟩
   |false=>rw[hb] at h;exact nF f r j v h
  |false=>
   rw[hf] at h;simp only at h;obtain⟨h1,h2⟩:=nF f r j v h;simp only[aq]
   cases hb:Nat.beq t j with
   |true=>have:=zP hb;subst this;rw[hf] at h2;cases h2
   |false=>exact⟨h1,h2⟩
structure St where
 env:List (Nat×AV)
 bs:List Box
 lo:Nat
inductive Pl where
 |sl (t:Nat)
 |bx (b j:Nat)
deriving DecidableEq
def Box.cs?:Box->Option (List AV)
 |.cells cs=>some cs
 |.row (c::cs)=>some (c::cs)
 |_=>none
def Box.lb?:Box->Option LB
 |.loop x=>some x
 |.mp l=>some (yg l)
 |.mq l c=>some (mLB (mqE l) c)
 |.tab x=>some x.lb
 |_=>none
def aa(bs:List Box)(b:Nat):Option (List AV):=
 match bs[b]? with
 |some x=>x.cs?
 |none=>none
def ag(bs:List Box)(b:Nat):Option LB:=
 match bs[b]? with
 |some x=>x.lb?
 |none=>none
theorem fi(cs:List AV):(Box.row cs).cs? =if cs=[] then none else some cs:=by cases cs<;>rfl
def St.at(s:St):Pl->Option AV
 |.sl t=>aq s.env t
 |.bx b j=>(aa s.bs b).bind (·[j]?)
def St.get(s:St)(t:Nat):AV:=match aq s.env t with
 |some v=>v
 |none=>.top
def St.put(s:St)(d:Option Nat)(x:AV):St:=match d with
 |some k=>⟨aM s.env k x,s.bs,s.lo⟩
 |none=>s
def St.aF(s:St)(b:Nat)(cs:List AV):St:=⟨s.env,s.bs.set b (.cells cs),s.lo⟩
def St.upd(s:St)(p:Pl)(x:AV):St:=
 match p with
 |.sl t=>⟨aM s.env t x,s.bs,s.lo⟩
 |.bx b j=>match aa s.bs b with
  |some cs=>s.aF b (cs.set j x)
  |none=>s
theorem St.ef(s:St)(k:Nat)(x:AV)(p:Pl):(s.put (some k) x).at p=if p=.sl k then some x else s.at p:=by
 cases p with
 |sl t=>
  simp only[St.put,St.at,fC]
  by_cases h:t=k
  .subst h;simp
  .rw [if_neg h,if_neg (by simpa using h)]
 |bx b j=>simp[St.put,St.at]
theorem aS{bs:List Box}{b:Nat}{cs:List AV}(h:aa bs b=some cs)(ds:List AV)(b':Nat):aa (bs.set b (.cells ds)) b'=if b'=b then some ds else aa bs b':=by
 have hb:b<bs.length:=by
  rcases zu b bs.length with h1|h1
  .exact h1
  .simp [aa,zS h1] at h
 simp only[aa,zr]
 by_cases e:b=b'
 .subst e;simp[hb,Box.cs?]
 .rw [if_neg e,if_neg (λx=>e x.symm)]
theorem aB{bs:List Box}{b:Nat}{cs:List AV}(h:aa bs b=some cs):b<bs.length:=by
 rcases zu b bs.length with h1|h1
 .exact h1
 .simp [aa,zS h1] at h
theorem al(bs:List Box)(x:Box)(b:Nat):aa (bs++[x]) b=if b=bs.length then x.cs? else aa bs b:=by
 simp only[aa]
 by_cases h:b<bs.length
 .rw [zK h,if_neg (by omega)]
 .by_cases h2:b=bs.length
  .subst h2;simp
  .rw [if_neg h2,zS (by simp;omega),zS (by omega)]
structure Entry where
 FP:Nat->Prop
 M:Hp
 w:World
 nt:Nat
 nb:Nat
 σ0:Nat->Nat
 dd:List Deferred
structure Gh where
 M:Hp
 σ:Nat->Nat
 cl:Pl->Option Nat
def aw(σ:Nat->Nat)(a:Act)(w:World):Pl->Value
 |.sl t=>a.tmps.getD t undef
 |.bx b j=>(w.cell? ⟨σ b,j,none⟩).getD undef
def mark(D:Nat):Deferred:={target:=.collected D,args:=#[]}
def Spc(σ:Nat->Nat)(bs:List Box)(ds:List Deferred)(B:Nat)(o:Obj):Prop:=(∃b x,ag bs b=some x/\σ b=B/\o=x.obj)\/(mark B∈ds/\o=.deferred (some []))
structure Sp(FP:Nat->Prop)(w0:World)(M:Hp)(σ:Nat->Nat)(cl:Pl->Option Nat)(bs:List Box)(ds dd:List Deferred)(w:World):Prop where
 ob:∀B o,Spc σ bs ds B o->w.heap[B]? =some o/\(∀p,cl p≠some B)/\(FP B\/w0.heap.size<=B)
 base:∀b x,ag bs b=some x->x.M.le M/\x.n<=b/\∀c,c<x.n->σ c=x.σ c
 inj:∀b b' x x',ag bs b=some x->ag bs b'=some x'->σ b=σ b'->b=b'
 ds:∃Ds:List Nat,ds=Ds.map mark++dd/\ds.Nodup
 rows:∀b x,ag bs b=some x->∀j B o,(j,B,o)∈x.rs->w.heap[B]? =some o/\cl (.bx b j)=some B/\∀k,M B k=Option.none
theorem Spc.qB{σ:Nat->Nat}{bs:List Box}{ds:List Deferred}{B:Nat}{o:Obj}(h:Spc σ bs ds B o):o.isCells=false:=by
 rcases h with ⟨b,x,_,_,rfl⟩|⟨_,rfl⟩
 .exact x.C4
 .rfl
theorem aI{bs:List Box}{b:Nat}{x:LB}(h:ag bs b=some x):b<bs.length:=by
 rcases zu b bs.length with h1|h1
 .exact h1
 .simp [ag,zS h1] at h
theorem vq{bs:List Box}{b:Nat}(h:(ag bs b).isSome=true):aa bs b=none:=by
 simp only[ag,aa] at h|-;split
 .rename_i x hx;rw[hx] at h;cases x<;>first|rfl|cases h
 .rfl
theorem y8{s:St}{b j:Nat}(h:(ag s.bs b).isSome=true):s.at (.bx b j)=none:=by
 simp only[St.at,vq h];rfl
theorem ej{b:Nat}{x:LB}(h:ag [] b=some x):False:=by simp[ag] at h
theorem Sp.none(FP:Nat->Prop)(w0:World)(M:Hp)(σ:Nat->Nat)(cl:Pl->Option Nat)(w:World):Sp FP w0 M σ cl [] [] [] w:=
 ⟨λB o h=>(by rcases h with ⟨b,x,hb,_⟩|⟨h,_⟩;exact(ej hb).elim;cases h),λb x hb=>(ej hb).elim,λb b' x x' hb=>(ej hb).elim,⟨[],rfl,.nil⟩,λb x hb=>(ej hb).elim⟩
theorem Sp.step{FP FP':Nat->Prop}{w0 w0':World}{M M':Hp}{σ σ':Nat->Nat}{cl cl':Pl->Option Nat}{bs bs':List Box}{ds dd:List Deferred}{w w':World}(h:Sp FP w0 M σ cl bs ds dd w)(hM:M.le M')(hσ:∀b,b<bs.length->σ' b=σ b)
  (hl:∀b x,ag bs' b=some x->ag bs b=some x) (hw:∀(B:Nat) (o:Obj),w.heap[B]? =some o->o.isCells=false->w'.heap[B]? =some o) (hcl:∀(B:Nat) (o:Obj),w.heap[B]? =some o->o.isCells=false->∀p,cl' p=some B->∃q,cl q=some B)
  (hm:∀B,FP B\/w0.heap.size<=B->FP' B\/w0'.heap.size<=B)
  (hr:∀b j B o,(ag bs b).isSome=true->cl (.bx b j)=some B->w.heap[B]? =some o->cl' (.bx b j)=some B/\w'.heap[B]? =some o/\((∀k,M B k=Option.none)->∀k,M' B k=Option.none):=by exact λ_ _ _ _ _ h1 h2=>⟨h1,h2,λh3=>h3⟩):Sp FP' w0' M' σ' cl' bs' ds dd w':=by
 refine⟨λB o hs=>?_,λb x hb=>?_,λb b' x x' hb hb' e=>?_,h.ds,λb x hb j B o hj=>?_⟩
 .have hs':Spc σ bs ds B o:=by
   rcases hs with ⟨b,x,hb,e,ho⟩|hs
   .have:=hl b x hb;exact .inl ⟨b,x,this,by rw[<-hσ b (aI this)];exact e,ho⟩
   .exact .inr hs
  obtain⟨h1,h2,h3⟩:=h.ob B o hs';refine⟨hw B o h1 hs'.qB,λp hp=>?_,hm B h3⟩;obtain⟨q,hq⟩:=hcl B o h1 hs'.qB p hp;exact h2 q hq
 .have hb':=hl b x hb;obtain⟨h1,h2,h3⟩:=h.base b x hb';have:=aI hb';exact⟨Hp.le_trans h1 hM,h2,λc hc=>(hσ c (by omega)).trans (h3 c hc)⟩
 .have h1:=hl b x hb;have h2:=hl b' x' hb';exact h.inj b b' x x' h1 h2 (by rw[<-hσ b (aI h1),<-hσ b' (aI h2)];exact e)
 .have h1:=hl b x hb;obtain⟨h2,h3,h4⟩:=h.rows b x h1 j B o hj;obtain⟨h5,h6,h7⟩:=hr b j B o (by rw[h1];rfl) h3 h2
  exact⟨h6,h5,h7 h4⟩
theorem Sp.loops{FP:Nat->Prop}{w0:World}{M:Hp}{σ:Nat->Nat}{cl:Pl->Option Nat}{bs bs':List Box}{ds dd:List Deferred}{w:World}(h:Sp FP w0 M σ cl bs ds dd w)(hl:∀b x,ag bs' b=some x->ag bs b=some x):Sp FP w0 M σ cl bs' ds dd w:=
 h.step (Hp.le_refl _) (λ_ _=>rfl) hl (λ_ _ k _=>k) (λ_ _ _ _ p k=>⟨p,k⟩) (λ_ k=>k)
theorem Cf{bs:List Box}{b:Nat}{cs:List AV}{c:Nat}{x:LB}(h:ag (bs.set b (.cells cs)) c=some x):ag bs c=some x:=by
 by_cases e:b=c
 .subst e
  by_cases hb:b<bs.length
  .simp [ag,hb] at h;cases h
  .simp [ag,hb] at h
 .simp only[ag,zr,if_neg e] at h;exact h
theorem dq{bs:List Box}{y:Box}(hy:y.lb? =none){c:Nat}{x:LB}(h:ag (bs++[y]) c=some x):ag bs c=some x:=by
 simp only[ag] at h|-
 by_cases h1:c<bs.length
 .rwa [zK h1] at h
 .by_cases h2:c=bs.length
  .subst h2;simp[hy] at h
  .rw [zS (by simp;omega)] at h;cases h
def KB:Nat:=1
def KV:List Value:=[1,10,100,1000,10000,100000,1000000,10000000,100000000,1000000000,10000000000,100000000000,1000000000000,10000000000000,100000000000000,1000000000000000,10000000000000000,100000000000000000,1000000000000000000,10000000000000000000].map (Value.int .u64)
structure Kn(M:Hp)(w:World):Prop where
 tb:∃T fz,w.heap[KB]? =some (.cells KV.toArray T fz)
 kn:∀j v,KV[j]? =some v->M KB j=some v
theorem Kn.of{w:World}(h:∃T fz,w.heap[KB]? =some (.cells KV.toArray T fz)):Kn (Hp.of w) w:=⟨h,λj v hv=>by
 obtain⟨T,fz,h1⟩:=h;simp only[Hp.of,World.cell?,h1];simpa using hv⟩
theorem Kn.mono{M M':Hp}{w:World}(h:Kn M w)(hM:M.le M'):Kn M' w:=⟨h.tb,λj v hv=>hM _ _ _ (h.kn j v hv)⟩
theorem Kn.keep{M:Hp}{w w':World}(h:Kn M w)(hh:w'.heap[KB]? =w.heap[KB]?):Kn M w':=⟨by rw[hh];exact h.tb,h.kn⟩
theorem Kn.lt{M:Hp}{w:World}(h:Kn M w):KB<w.heap.size:=by
 obtain⟨T,fz,h1⟩:=h.tb;exact(zi.1 h1).1
theorem Kn.ne{M:Hp}{w:World}(h:Kn M w){B:Nat}(hB:∀o,M B o=none):KB≠B:=λe=>by
 have:=h.kn 0 _ rfl;rw[e,hB] at this;cases this
theorem Kn.neO{M:Hp}{w:World}(h:Kn M w){B:Nat}{o:Obj}(ho:w.heap[B]? =some o)(hk:o.isCells=false):KB≠B:=λe=>by
 obtain⟨T,fz,h1⟩:=h.tb;rw[e,ho] at h1;cases h1;cases hk
theorem Kn.neR{M:Hp}{w:World}(h:Kn M w){B m:Nat}{vs:Array Value}{T:TypeId}{fz:Nat×Nat}(hc:w.heap[B]? =some (.cells vs T fz))(hm:m<vs.size)(hf:M B m=none):KB≠B:=λe=>by
 obtain⟨T',fz',h1⟩:=h.tb;rw[e,hc] at h1;cases h1;have:=h.kn m _ (zA (by simpa using hm))
 rw[e,hf] at this;cases this
structure Fr0(FP:Nat->Prop)(M:Hp)(w:World)(M':Hp)(w':World):Prop where
 os:w'.os=w.os
 tape:w'.tape=w.tape
 output:w'.output=w.output
 size:w.heap.size<=w'.heap.size
 le:M.le M'
 heap:∀B,B<w.heap.size->¬FP B->w'.heap[B]? =w.heap[B]?
 mem:∀B,B<w.heap.size->¬FP B->∀o,M' B o=M B o
structure Fr(FP:Nat->Prop)(M:Hp)(w:World)(M':Hp)(w':World):Prop where
 os:w'.os=w.os
 tape:w'.tape=w.tape
 output:w'.output=w.output
 size:w.heap.size<=w'.heap.size
 le:M.le M'
 heap:∀B,B<w.heap.size->¬FP B->w'.heap[B]? =w.heap[B]?
 mem:∀B,B<w.heap.size->¬FP B->∀o,M' B o=M B o
 kn:Kn M' w'
theorem Fr.refl(FP:Nat->Prop)(M:Hp)(w:World)(k:Kn M w):Fr FP M w M w:=⟨rfl,rfl,rfl,zG _,Hp.le_refl _,λ_ _ _=>rfl,λ_ _ _ _=>rfl,k⟩
theorem Fr.trans{FP FP':Nat->Prop}{M M1 M2:Hp}{w w1 w2:World}(h:Fr FP M w M1 w1)(k:Fr FP' M1 w1 M2 w2)(hs:∀B,FP' B->FP B\/w.heap.size<=B):Fr FP M w M2 w2:=by
 refine⟨k.os.trans h.os,k.tape.trans h.tape,k.output.trans h.output,ZP h.size k.size,Hp.le_trans h.le k.le,λB hB hn=>?_,λB hB hn o=>?_,k.kn⟩
 .have:¬FP' B:=λe=>by rcases hs B e with e|e;exact hn e;omega
  exact(k.heap B (by have:=h.size;omega) this).trans (h.heap B hB hn)
 .have:¬FP' B:=λe=>by rcases hs B e with e|e;exact hn e;omega
  exact(k.mem B (by have:=h.size;omega) this o).trans (h.mem B hB hn o)
theorem Fr0.fr{M M':Hp}{w w':World}(h:Fr0 (λ_=>False) M w M' w')(k:Kn M w):Fr (λ_=>False) M w M' w':=
 ⟨h.os,h.tape,h.output,h.size,h.le,h.heap,h.mem,(k.mono h.le).keep (h.heap KB k.lt (λe=>e))⟩
structure Row(FP:Nat->Prop)(w0:World)(M:Hp)(w:World)(B sz n k:Nat):Prop where
 lt:n<k
 cells:∃(vs:Array Value) (T:TypeId),w.heap[B]? =some (.cells vs T (0,0))/\vs.size=k*sz
 free:∀o,n*sz<=o->M B o=none
 mine:FP B\/w0.heap.size<=B
structure RS(E:Entry)(G:Gh)(s:St)(a:Act)(w:World):Prop where
 fr:Fr E.FP E.M E.w G.M w
 ok:G.M.le (Hp.of w)
 nt:a.tmps.size=E.nt
 val:∀p x,s.at p=some x->RV G.M G.σ s.bs.length x.aG (aw G.σ a w p)
 one:∀b j x,s.at (.bx b j)=some x->(aw G.σ a w (.bx b j)).oneCell'=true
 box:∀b cs,aa s.bs b=some cs->∃(vs:Array Value) (T:TypeId),w.heap[G.σ b]? =some (.cells vs T (0,0))/\cs.length<=vs.size
 bmem:∀b cs,aa s.bs b=some cs->(∀o,G.M (G.σ b) o=none)/\(E.FP (G.σ b)\/E.w.heap.size<=G.σ b)
 inj:∀b b' cs cs',aa s.bs b=some cs->aa s.bs b'=some cs'->G.σ b=G.σ b'->b=b'
 own:∀p z l,s.at p=some (.sl (.own z) l)->∃ad k,aw G.σ a w p=.slice ad l.length k/\(∀y∈l,y.cells.length=z)/\(k=l.length\/∃B,G.cl p=some B/\ad=some ⟨B,0,none⟩/\Row E.FP E.w G.M w B z l.length k)
 clinj:∀p q B,G.cl p=some B->G.cl q=some B->p=q
 clbox:∀p B,G.cl p=some B->∀b cs,aa s.bs b=some cs->G.σ b≠B
 cllt:∀p B,G.cl p=some B->B<w.heap.size/\(E.FP B\/E.w.heap.size<=B)
 lo:s.lo=E.nb
 len:E.nb<=s.bs.length
 sig:∀b,b<E.nb->G.σ b=E.σ0 b
 sp:Sp E.FP E.w G.M G.σ G.cl s.bs a.defers E.dd w
section
variable{E:Entry}{G:Gh}{s:St}{a:Act}{w:World}
theorem RS.blt(h:RS E G s a w){b:Nat}{cs:List AV}(hb:aa s.bs b=some cs):G.σ b<w.heap.size:=by
 obtain⟨vs,T,h1,_⟩:=h.box b cs hb;rcases zu (G.σ b) w.heap.size with h2|h2
 .exact h2
 .rw [Zk (by omega)] at h1;cases h1
theorem bD{w w':World}{B:Nat}(h:w'.heap[B]? =w.heap[B]?)(o:Nat):w'.cell? ⟨B,o,none⟩=w.cell? ⟨B,o,none⟩:=by
 simp only[World.cell?,h]
theorem RS.nU(h:RS E G s a w){bs':List Box}(hc:∀b,aa bs' b=aa s.bs b)(hl:∀b,ag bs' b=ag s.bs b)(hn:bs'.length=s.bs.length):RS E G ⟨s.env,bs',s.lo⟩ a w:=by
 have hat:∀p,(⟨s.env,bs',s.lo⟩:St).at p=s.at p:=λp=>by
  cases p with
  |sl t=>rfl
  |bx b j=>simp only[St.at,hc]
 exact⟨h.fr,h.ok,h.nt,λp x hp=>by simp only[hn];exact h.val p x (by rw[<-hat];exact hp),λb j x hp=>h.one b j x (by rw[<-hat];exact hp),λb cs hb=>h.box b cs (by rw[<-hc];exact hb),λb cs hb=>h.bmem b cs (by rw[<-hc];exact hb),λb b' cs cs' hb hb'=>h.inj b b' cs cs' (by rw[<-hc];exact hb) (by rw[<-hc];exact hb'),λp z l hp=>h.own p z l (by rw[<-hat];exact hp),h.clinj,λp B hB b cs hb=>h.clbox p B hB b cs (by rw[<-hc];exact hb),h.cllt,h.lo,by simp only[hn];exact h.len,h.sig,h.sp.loops λb x hb=>by rw[<-hl];exact hb⟩
theorem RS.grow(h:RS E G s a w){M':Hp}{w':World}(hf:Fr0 (λ_=>False) G.M w M' w')(hok:M'.le (Hp.of w')):RS E {G with M:=M'} s a w':=by
 have hlt:∀B o v,G.M B o=some v->B<w.heap.size:=λB o v e=>Hp.lt h.ok e;have hmem:∀B,B<w.heap.size->∀o,M' B o=G.M B o:=λB hB o=>hf.mem B hB (λe=>e) o;have hheap:∀B,B<w.heap.size->w'.heap[B]? =w.heap[B]?:=λB hB=>hf.heap B hB (λe=>e)
 have hval:∀p x,s.at p=some x->aw G.σ a w' p=aw G.σ a w p:=λp x hx=>by
  cases p with
  |sl t=>rfl
  |bx b j=>
   simp only[St.at] at hx
   cases hb:aa s.bs b with
   |none=>rw[hb] at hx;cases hx
   |some cs=>simp only[aw];rw[bD (hheap _ (h.blt hb))]
 refine⟨h.fr.trans (hf.fr h.fr.kn) (λ_ e=>e.elim),hok,h.nt,λp x hx=>?_,λb j x hx=>?_,λb cs hb=>?_,λb cs hb=>?_,h.inj,λp z l hp=>?_,h.clinj,h.clbox,λp B hB=>?_,h.lo,h.len,h.sig,h.sp.step hf.le (λ_ _=>rfl) (λ_ _ k=>k) (λB o ho _=>(hheap B (zi.1 ho).1).trans ho) (λ_ _ _ _ p k=>⟨p,k⟩) (λ_ k=>k) (λb j B o _ h1 h2=>⟨h1,(hheap B (zi.1 h2).1).trans h2,λh3 k=>(hmem B (zi.1 h2).1 k).trans (h3 k)⟩)⟩
 .show RV M' G.σ _ _ (aw G.σ a w' p);rw[hval p x hx];exact(h.val p x hx).mono hf.le (zG _) (λ_ _=>rfl)
 .show (aw G.σ a w' _).oneCell'=true;rw[hval _ x hx];exact h.one b j x hx
 .obtain ⟨vs,T,h1,h2⟩:=h.box b cs hb;exact⟨vs,T,(hheap _ (h.blt hb)).trans h1,h2⟩
 .obtain ⟨h1,h2⟩:=h.bmem b cs hb;exact⟨λo=>(hmem _ (h.blt hb) o).trans (h1 o),h2⟩
 .obtain ⟨ad,k,h1,hz,h2⟩:=h.own p z l hp;refine⟨ad,k,(hval p _ hp).trans h1,hz,?_⟩;rcases h2 with h2|⟨B,hB,had,hrow⟩
  .exact .inl h2
  .have hB':=(h.cllt p B hB).1;obtain⟨vs,T,h3,h4⟩:=hrow.cells;exact .inr ⟨B,hB,had,hrow.lt,⟨vs,T,(hheap _ hB').trans h3,h4⟩,λo ho=>(hmem _ hB' o).trans (hrow.free o ho),hrow.mine⟩
 .obtain ⟨h1,h2⟩:=h.cllt p B hB;exact⟨ZV h1 hf.size,h2⟩
theorem RS.drew(h:RS E G s a w):RS E G s a {w with drawn:=w.drawn+1}:=
 h.grow (M':=G.M) ⟨rfl,rfl,rfl,zG _,Hp.le_refl _,λ_ _ _=>rfl,λ_ _ _ _=>rfl⟩ h.ok
theorem cQ{σ:Nat->Nat}(a:Act)(w:World)(k:Nat)(v:Value)(p:Pl)(hk:k<a.tmps.size):aw σ (a.put (some k) v) w p=if p=.sl k then v else aw σ a w p:=by
 cases p with
 |sl t=>
  simp only[aw,Act.put]
  by_cases h:t=k
  .subst h;simp[hk]
  .rw [if_neg (by simpa using h)]
   simp[zX (Ne.symm h)]
 |bx b j=>simp[aw]
theorem RS.put(h:RS E G s a w){k:Nat}(hk:k<E.nt){x:AV}{v:Value}(hx:RV G.M G.σ s.bs.length x v):RS E G (s.put (some k) x) (a.put (some k) v) w:=by
 have hk':k<a.tmps.size:=by rw[h.nt];exact hk
 have hbs:(s.put (some k) x).bs=s.bs:=rfl;refine⟨h.fr,h.ok,?_,λp y hy=>?_,λb j y hy=>?_,h.box,h.bmem,h.inj,λp z l hp=>?_,h.clinj,h.clbox,h.cllt,h.lo,h.len,h.sig,h.sp⟩
 .simp [Act.put,h.nt]
 .rw [St.ef] at hy;rw[cQ a w k v p hk']
  by_cases hp:p=.sl k
  .rw [if_pos hp] at hy|-;cases hy;rw[hx.cr];exact hx
  .rw [if_neg hp] at hy|-;exact h.val p y hy
 .rw [St.ef,if_neg (by simp)] at hy
  rw[cQ a w k v _ hk',if_neg (by simp)]
  exact h.one b j y hy
 .rw [St.ef] at hp;rw[cQ a w k v p hk']
  by_cases hpk:p=.sl k
  .rw [if_pos hpk] at hp;cases hp;have:=hx.cr;simp[AV.aG] at this
  .rw [if_neg hpk] at hp|-;exact h.own p z l hp
theorem RS.Kk(h:RS E G s a w){d:Option Nat}(hd:∀k,d=some k->k<E.nt){x:AV}{v:Value}(hx:RV G.M G.σ s.bs.length x v):RS E G (s.put d x) (a.put d v) w:=by
 cases d with
 |none=>exact h
 |some k=>exact h.put (hd k rfl) hx
theorem St.eZ(s:St){q:Pl}{y:AV}(hq:s.at q=some y)(x:AV)(p:Pl):(s.upd q x).at p=if p=q then some x else s.at p:=by
 cases q with
 |sl t=>exact St.ef s t x p
 |bx b j=>
  simp only[St.at] at hq
  cases hb:aa s.bs b with
  |none=>rw[hb] at hq;cases hq
  |some cs=>
   rw[hb] at hq;simp only[ZH] at hq;simp only[St.upd,hb]
   cases p with
   |sl t=>simp[St.at,St.aF]
   |bx b' j'=>
    simp only[St.at,St.aF,aS hb]
    by_cases e:b'=b
    .subst e;rw[if_pos rfl];simp only[ZH,zr]
     have hj:j<cs.length:=by
      rcases zu j cs.length with h1|h1
      .exact h1
      .rw [zS h1] at hq;cases hq
     by_cases e2:j=j'
     .subst e2;simp[hj]
     .rw [if_neg e2,if_neg (by simpa using λx=>e2 x.symm),hb];rfl
    .rw [if_neg e,if_neg (by simp[e])]
theorem St.fE(s:St)(q:Pl)(x:AV):(s.upd q x).bs.length=s.bs.length:=by
 cases q with
 |sl t=>rfl
 |bx b j=>
  simp only[St.upd];cases aa s.bs b<;>simp[St.aF]
theorem St.qg(s:St)(q:Pl)(x:AV):(s.upd q x).lo=s.lo:=by
 cases q with
 |sl t=>rfl
 |bx b j=>
  simp only[St.upd];cases aa s.bs b<;>rfl
theorem St.bt(s:St)(q:Pl)(x:AV)(b:Nat)(cs:List AV)(h:aa (s.upd q x).bs b=some cs):∃ds,aa s.bs b=some ds/\ds.length=cs.length:=by
 cases q with
 |sl t=>exact⟨cs,h,rfl⟩
 |bx c j=>
  simp only[St.upd] at h
  cases hb:aa s.bs c with
  |none=>rw[hb] at h;exact⟨cs,h,rfl⟩
  |some es=>
   rw[hb] at h;simp only[St.aF,aS hb] at h
   by_cases e:b=c
   .subst e;rw[if_pos rfl] at h;cases h;exact⟨es,hb,by simp⟩
   .rw [if_neg e] at h;exact⟨cs,h,rfl⟩
theorem St.kv{s:St}{q:Pl}{x:AV}{b:Nat}{y:LB}(h:ag (s.upd q x).bs b=some y):ag s.bs b=some y:=by
 cases q with
 |sl t=>exact h
 |bx c j=>
  simp only[St.upd] at h
  cases hb:aa s.bs c with
  |none=>rw[hb] at h;exact h
  |some es=>rw[hb] at h;exact Cf h
theorem RS.upd(h:RS E G s a w){q:Pl}{y x:AV}(hq:s.at q=some y)(hx:RV G.M G.σ s.bs.length x (aw G.σ a w q)):RS E G (s.upd q x) a w:=by
 refine⟨h.fr,h.ok,h.nt,λp u hu=>?_,λb j u hu=>?_,λb cs hb=>?_,λb cs hb=>?_,λb b' cs cs' hb hb' e=>?_,λp z l hp=>?_,h.clinj,λp B hB b cs hb=>?_,h.cllt,(St.qg s q x).trans h.lo,by rw[St.fE];exact h.len,h.sig,h.sp.loops λ_ _ k=>St.kv k⟩
 .rw [St.eZ s hq] at hu;rw[St.fE]
  by_cases hp:p=q
  .rw [if_pos hp] at hu;cases hu;rw[hx.cr,hp];exact hx
  .rw [if_neg hp] at hu;exact h.val p u hu
 .rw [St.eZ s hq] at hu
  by_cases hp:Pl.bx b j=q
  .rw [if_pos hp] at hu;exact h.one b j y (hp▸hq)
  .rw [if_neg hp] at hu;exact h.one b j u hu
 .obtain ⟨ds,h1,h2⟩:=s.bt q x b cs hb;obtain⟨vs,T,h3,h4⟩:=h.box b ds h1;exact⟨vs,T,h3,ZP (by omega) h4⟩
 .obtain ⟨ds,h1,h2⟩:=s.bt q x b cs hb;exact h.bmem b ds h1
 .obtain ⟨ds,h1,_⟩:=s.bt q x b cs hb;obtain⟨ds',h1',_⟩:=s.bt q x b' cs' hb';exact h.inj b b' ds ds' h1 h1' e
 .rw [St.eZ s hq] at hp
  by_cases hpq:p=q
  .rw [if_pos hpq] at hp;cases hp;have:=hx.cr;simp[AV.aG] at this
  .rw [if_neg hpq] at hp;exact h.own p z l hp
 .obtain ⟨ds,h1,_⟩:=s.bt q x b cs hb;exact h.clbox p B hB b ds h1
theorem RS.move(h:RS E G s a w){p q:Pl}{z:Nat}{l:List AV}{o:Cap}(hpq:p≠q)(hp:s.at p=some (.sl (.own z) l))(hq:s.at q=some (.sl o l))
  (he:aw G.σ a w q=aw G.σ a w p):RS E {G with cl:=λr=>if r=q then G.cl p else if r=p then none else G.cl r} ((s.upd p (.sl .no l)).upd q (.sl (.own z) l)) a w:=by
 have hvp:=h.val p _ hp;have h1:RS E G (s.upd p (.sl .no l)) a w:=h.upd hp hvp;have hq1:(s.upd p (.sl .no l)).at q=some (.sl o l):=by rw[St.eZ s hp,if_neg (Ne.symm hpq)];exact hq
 have hat:∀r,((s.upd p (.sl .no l)).upd q (.sl (.own z) l)).at r=if r=q then some (.sl (.own z) l) else if r=p then some (.sl .no l) else s.at r:=λr=>by
  rw[St.eZ _ hq1,St.eZ s hp]
 have hbox:∀b cs,aa ((s.upd p (.sl .no l)).upd q (.sl (.own z) l)).bs b=some cs->∃ds,aa s.bs b=some ds/\ds.length=cs.length:=λb cs hb=>by
  obtain⟨ds,h2,h3⟩:=St.bt _ q _ b cs hb;obtain⟨es,h4,h5⟩:=St.bt s p _ b ds h2;exact⟨es,h4,h5.trans h3⟩
 have hlen:((s.upd p (.sl .no l)).upd q (.sl (.own z) l)).bs.length=s.bs.length:=by rw[St.fE,St.fE]
 refine⟨h.fr,h.ok,h.nt,λr u hu=>?_,λb j u hu=>?_,λb cs hb=>?_,λb cs hb=>?_,λb b' cs cs' hb hb' e=>?_,λr z' l' hr=>?_,λr r' B hr hr'=>?_,λr B hB b cs hb=>?_,λr B hB=>?_,(St.qg _ q _).trans ((St.qg s p _).trans h.lo),by rw[hlen];exact h.len,h.sig,h.sp.step (Hp.le_refl _) (λ_ _=>rfl) (λ_ _ k=>St.kv (St.kv k)) (λ_ _ k _=>k) (λB _ _ _ r k=>?_) (λ_ k=>k) (λb j B o h1 h2 h3=>?_)⟩
 .rw [hat] at hu;rw[hlen]
  by_cases hr:r=q
  .rw [if_pos hr] at hu;cases hu;subst hr;rw[he];exact hvp
  .rw [if_neg hr] at hu
   by_cases hr2:r=p
   .rw [if_pos hr2] at hu;cases hu;subst hr2;exact hvp
   .rw [if_neg hr2] at hu;exact h.val r u hu
 .rw [hat] at hu
  by_cases hr:Pl.bx b j=q
  .exact h.one b j _ (hr▸hq)
  .rw [if_neg hr] at hu
   by_cases hr2:Pl.bx b j=p
   .exact h.one b j _ (hr2▸hp)
   .rw [if_neg hr2] at hu;exact h.one b j u hu
 .obtain ⟨ds,h2,h3⟩:=hbox b cs hb;obtain⟨vs,T,h4,h5⟩:=h.box b ds h2;exact⟨vs,T,h4,ZP (by omega) h5⟩
 .obtain ⟨ds,h2,h3⟩:=hbox b cs hb;exact h.bmem b ds h2
 .obtain ⟨ds,h2,h3⟩:=hbox b cs hb;obtain⟨ds',h2',h3'⟩:=hbox b' cs' hb';exact h.inj b b' ds ds' h2 h2' e
 .rw [hat] at hr
  by_cases hrq:r=q
  .rw [if_pos hrq] at hr;cases hr;obtain⟨ad,k,h2,hz,h3⟩:=h.own p z l hp;refine⟨ad,k,by rw[hrq];exact he.trans h2,hz,?_⟩
   rcases h3 with h3|⟨B,hB,h4,h5⟩
   .exact .inl h3
   .exact .inr ⟨B,by simp only[hrq,if_true];exact hB,h4,h5⟩
  .rw [if_neg hrq] at hr
   by_cases hrp:r=p
   .rw [if_pos hrp] at hr;cases hr
   .rw [if_neg hrp] at hr;obtain⟨ad,k,h2,hz,h3⟩:=h.own r z' l' hr;refine⟨ad,k,h2,hz,?_⟩;rcases h3 with h3|⟨B,hB,h4,h5⟩
    .exact .inl h3
    .exact .inr ⟨B,by simp only[hrq,hrp,if_false];exact hB,h4,h5⟩
 .simp only at hr hr'
  by_cases hrq:r=q
  .rw [if_pos hrq] at hr
   by_cases hrq':r'=q
   .rw [hrq,hrq']
   .rw [if_neg hrq'] at hr'
    by_cases hrp':r'=p
    .rw [if_pos hrp'] at hr';cases hr'
    .rw [if_neg hrp'] at hr';exact absurd (h.clinj _ _ B hr' hr) hrp'
  .rw [if_neg hrq] at hr
   by_cases hrp:r=p
   .rw [if_pos hrp] at hr;cases hr
   .rw [if_neg hrp] at hr
    by_cases hrq':r'=q
    .rw [if_pos hrq'] at hr';exact absurd (h.clinj _ _ B hr hr') hrp
    .rw [if_neg hrq'] at hr'
     by_cases hrp':r'=p
     .rw [if_pos hrp'] at hr';cases hr'
     .rw [if_neg hrp'] at hr';exact h.clinj _ _ B hr hr'
 .obtain ⟨ds,h2,h3⟩:=hbox b cs hb;simp only at hB
  by_cases hrq:r=q
  .rw [if_pos hrq] at hB;exact h.clbox p B hB b ds h2
  .rw [if_neg hrq] at hB
   by_cases hrp:r=p
   .rw [if_pos hrp] at hB;cases hB
   .rw [if_neg hrp] at hB;exact h.clbox r B hB b ds h2
 .simp only at hB
  by_cases hrq:r=q
  .rw [if_pos hrq] at hB;exact h.cllt p B hB
  .rw [if_neg hrq] at hB
   by_cases hrp:r=p
   .rw [if_pos hrp] at hB;cases hB
   .rw [if_neg hrp] at hB;exact h.cllt r B hB
 .simp only at k
  by_cases hrq:r=q
  .rw [if_pos hrq] at k;exact⟨p,k⟩
  .rw [if_neg hrq] at k
   by_cases hrp:r=p
   .rw [if_pos hrp] at k;cases k
   .rw [if_neg hrp] at k;exact⟨r,k⟩
 .have hnq:Pl.bx b j≠q:=λe=>by rw[<-e,y8 h1] at hq;cases hq
  have hnp:Pl.bx b j≠p:=λe=>by rw[<-e,y8 h1] at hp;cases hp
  exact⟨by simp only[if_neg hnq,if_neg hnp];exact h2,h3,λh4=>h4⟩
theorem RS.forget(h:RS E G s a w){s':St}{n:Nat}(hn:s'.bs.length=n)(hlo:s'.lo=s.lo)(hlon:s.lo<=n)(hat:∀p x,s'.at p=some x->s.at p=some x/\x.lt n=true)
  (hb:∀b cs,aa s'.bs b=some cs->aa s.bs b=some cs) (hbl:∀b x,ag s'.bs b=some x->ag s.bs b=some x):RS E G s' a w:=by
 subst hn;refine⟨h.fr,h.ok,h.nt,λp x hx=>?_,λb j x hx=>h.one b j x (hat _ _ hx).1,λb cs k=>h.box b cs (hb _ _ k),λb cs k=>h.bmem b cs (hb _ _ k),λb b' cs cs' k k'=>h.inj b b' cs cs' (hb _ _ k) (hb _ _ k'),λp z l hp=>h.own p z l (hat _ _ hp).1,h.clinj,λp B hB b cs k=>h.clbox p B hB b cs (hb _ _ k),h.cllt,hlo.trans h.lo,by rw[<-h.lo];exact hlon,h.sig,h.sp.loops hbl⟩
 obtain⟨h1,h2⟩:=hat p x hx;exact(h.val p x h1).lt (by rw[tM];exact h2)
theorem RS.aV(h:RS E G s a w){p:Pl}{l:List AV}(hp:s.at p=some (.sl .full l)){z:Nat}(hz:∀y∈l,y.cells.length=z):RS E G (s.upd p (.sl (.own z) l)) a w:=by
 have hv:=h.val p _ hp;simp only[AV.aG] at hv;refine⟨h.fr,h.ok,h.nt,λr u hu=>?_,λb j u hu=>?_,λb cs hb=>?_,λb cs hb=>?_,λb b' cs cs' hb hb' e=>?_,λr z' l' hr=>?_,h.clinj,λr B hB b cs hb=>?_,h.cllt,(St.qg s p _).trans h.lo,by rw[St.fE];exact h.len,h.sig,h.sp.loops λ_ _ k=>St.kv k⟩
 .rw [St.eZ s hp] at hu;rw[St.fE]
  by_cases hr:r=p
  .rw [if_pos hr] at hu;cases hu;rw[hr];exact hv.bG
  .rw [if_neg hr] at hu;exact h.val r u hu
 .rw [St.eZ s hp] at hu
  by_cases hr:Pl.bx b j=p
  .exact h.one b j _ (hr▸hp)
  .rw [if_neg hr] at hu;exact h.one b j u hu
 .obtain ⟨ds,h1,h2⟩:=s.bt p _ b cs hb;obtain⟨vs,T,h3,h4⟩:=h.box b ds h1;exact⟨vs,T,h3,ZP (by omega) h4⟩
 .obtain ⟨ds,h1,h2⟩:=s.bt p _ b cs hb;exact h.bmem b ds h1
 .obtain ⟨ds,h1,_⟩:=s.bt p _ b cs hb;obtain⟨ds',h1',_⟩:=s.bt p _ b' cs' hb';exact h.inj b b' ds ds' h1 h1' e
 .rw [St.eZ s hp] at hr
  by_cases hrp:r=p
  .rw [if_pos hrp] at hr;cases hr;obtain⟨ad,k,B,off,sz,h1,_,_,_,h2,_⟩:=hv.cq;exact⟨ad,k,by rw[hrp];exact h1,hz,.inl (h2 rfl)⟩
  .rw [if_neg hrp] at hr;exact h.own r z' l' hr
 .obtain ⟨ds,h1,_⟩:=s.bt p _ b cs hb;exact h.clbox r B hB b ds h1
end
end Go.AM
namespace Go.AM
open Go.CK Go.RowKit
def F0(rd:Option Nat):Fence:={Fence.wide with round:=rd}
inductive Opd where
 |t (k:Nat)
 |c (x:AV)
deriving Inhabited
def oC:Value->Option AV
 |.bool b=>some (.bool b)
 |.int k n=>some (.int k n)
 |.string s=>if s.size<=lim then some (.str s) else none
 |.pointer none=>some .cU
 |.slice none 0 0=>some (.sl .full [])
 |.map none=>some .nmp
 |.nilFunc=>some .nfn
 |.nilIface=>some .tH
 |_=>none
def oB:List Value->Option (List AV)
 |[]=>some []
 |v::vs=>match oC v,oB vs with
  |some x,some xs=>some (x::xs)
  |_,_=>none
def cH:Value->Option AV
 |.agg cs=>(oB cs.toList).map .agg
 |v=>oC v
theorem Cj{M:Hp}{v:Value}{x:AV}(h:oC v=some x):FV M x v/\v.oneCell'=true:=by
 unfold oC at h;split at h<;>first|(cases h;done)|skip
 .cases h;exact⟨.bool _,rfl⟩
 .cases h;exact⟨.int _ _,rfl⟩
 .split at h
  .rename_i hs;cases h;exact⟨.str _ hs,rfl⟩
  .cases h
 .cases h;exact⟨.cU,rfl⟩
 .cases h;exact⟨.sl .full [] none 0 0 0 0 (by simp) (zG _) (by simp) (λ_=>rfl) (by simp) (λi h=>by cases h) (λi h=>by cases h) (λi h=>by cases h),rfl⟩
 .cases h;exact⟨.nmp,rfl⟩
 .cases h;exact⟨.nfn,rfl⟩
 .cases h;exact⟨.tH,rfl⟩
theorem uR{M:Hp}:∀{vs:List Value} {xs:List AV},oB vs=some xs->vs.length=xs.length/\(∀v∈vs,v.oneCell'=true)/\∀j (h:j<xs.length) v,vs[j]? =some v->FV M xs[j] v
 |[],xs,h=>by
  cases h
  exact⟨rfl,(λv hv=>by cases hv),(λj hj=>by cases hj)⟩
 |v::vs,xs,h=>by
  simp only[oB] at h;split at h
  .rename_i x xs' h1 h2;cases h;obtain⟨a1,a2⟩:=Cj (M:=M) h1;obtain⟨b1,b2,b3⟩:=uR (M:=M) h2;refine⟨by simp[b1],λu hu=>?_,λj hj u hu=>?_⟩
   .rcases zI.1 hu with rfl|hu
    .exact a2
    .exact b2 u hu
   .cases j with
    |zero=>simp at hu;subst hu;exact a1
    |succ j=>simp at hu;simp at hj;exact b3 j hj u hu
  .cases h
theorem dW{M:Hp}{v:Value}{x:AV}(h:cH v=some x):FV M x v:=by
 unfold cH at h;split at h
 .rename_i cs
  cases hc:oB cs.toList with
  |none=>rw[hc] at h;cases h
  |some xs=>
   rw[hc] at h;cases h;obtain⟨h1,h2,h3⟩:=uR (M:=M) hc;have:=FV.agg xs cs.toList h1 h2 h3;simpa using this
 .exact (Cj h).1
def opd:Operand->Option Opd
 |.tmp t=>some (.t t)
 |.const v=>(cH v).map .c
 |.func f=>some (.c (.fn (.func f) [] []))
 |.global _=>none
def St.ev(s:St):Opd->AV
 |.t k=>(s.get k).aG
 |.c x=>x
theorem St.get_at{s:St}{k:Nat}:s.get k=(s.at (.sl k)).getD .top:=by
 simp only[St.get,St.at];cases aq s.env k<;>rfl
section
variable{E:Entry}{G:Gh}{s:St}{a:Act}{w:World}{P:Program}
theorem RS.KH(h:RS E G s a w)(k:Nat):RV G.M G.σ s.bs.length (s.get k).aG (a.tmps.getD k undef):=by
 rw[St.get_at]
 cases hk:s.at (.sl k) with
 |none=>exact .flat (.top _)
 |some x=>exact h.val (.sl k) x hk
theorem RS.ev(h:RS E G s a w){o:Operand}{r:Opd}(ho:opd o=some r):RV G.M G.σ s.bs.length (s.ev r) (a.eval o):=by
 cases o with
 |tmp t=>cases ho;exact h.KH t
 |const v=>
  simp only[opd] at ho
  cases hv:cH v with
  |none=>rw[hv] at ho;cases ho
  |some x=>rw[hv] at ho;cases ho;exact .flat (dW hv)
 |func f=>cases ho;exact .fn _ [] [] [] [] rfl rfl (λj h=>by cases h) (λj h=>by cases h)
 |global g=>cases ho
end
def bd:List Operand->Option (List Opd)
 |[]=>some []
 |o::os=>match opd o,bd os with
  |some r,some rs=>some (r::rs)
  |_,_=>none
theorem AY:∀{os:List Operand} {rs:List Opd},bd os=some rs->os.length=rs.length/\∀(i:Nat) (o:Operand),os[i]? =some o->∃r,rs[i]? =some r/\opd o=some r
 |[],rs,h=>by cases h;exact⟨rfl,λi o ho=>by cases ho⟩
 |o::os,rs,h=>by
  simp only[bd] at h;split at h
  .rename_i r rs' h1 h2;cases h;obtain⟨h3,h4⟩:=AY h2;refine⟨by simp[h3],λi o' ho=>?_⟩
   cases i with
   |zero=>simp at ho;subst ho;exact⟨r,rfl,h1⟩
   |succ i=>simp at ho;simpa using h4 i o' ho
  .cases h
def OpS(P:Program)(o:Oper)(s:St)(K:St->Prop):Prop:=
 ∀(E:Entry) (G:Gh) (a:Act) (w:World) (rd:Option Nat) (n:Nat) (next:Act->World->Prop) (Q:Exit->Act->World->Prop),RS E G s a w->(∀d,o.dst=some d->d<E.nt)->
  (∀s' G' a' w',K s'->RS E G' s' a' w'->a'.defers=a.defers->next a' w')->o.wpIn (F0 rd) n P a w next Q
theorem put_defers(a:Act)(d:Option Tmp)(v:Value):(a.put d v).defers=a.defers:=by cases d<;>rfl
theorem OpS.val{P:Program}{o:Oper}{s:St}{K:St->Prop}(x:AV)(s':St)(hd:∀c,o.op≠.defer c)(hK:K (s'.put o.dst x))
  (h:∀E G a w,RS E G s a w->∃v G' w',(execOp a.eval o).run P w=.ok (.value v) w'/\RS E G' s' a w'/\RV G'.M G'.σ s'.bs.length x v):OpS P o s K:=by
 intro E G a w rd n next Q hs hdst hnext
 obtain⟨v,G',w',h1,h2,h3⟩:=h E G a w hs;refine⟨λ_ _=>trivial,?_⟩;rw[Oper.semAt_eq _ _ _ hd,h1];exact hnext _ G' _ w' hK (h2.Kk hdst h3) (put_defers _ _ _)
theorem OpS.pure{P:Program}{o:Oper}{s:St}{K:St->Prop}(x:AV)(hd:∀c,o.op≠.defer c)(hK:K (s.put o.dst x))
  (h:∀E G a w,RS E G s a w->∃v,(execOp a.eval o).run P w=.ok (.value v) w/\RV G.M G.σ s.bs.length x v):OpS P o s K:=
 OpS.val x s hd hK λE G a w hs=>let ⟨v,h1,h2⟩:=h E G a w hs;⟨v,G,w,h1,hs,h2⟩
theorem OpS.skip{P:Program}{o:Oper}{s:St}{K:St->Prop}(s':St)(hd:∀c,o.op≠.defer c)(hn:o.dst=none)(hK:K s')
  (h:∀E G a w,RS E G s a w->∃G' w',(execOp a.eval o).run P w=.ok .skip w'/\RS E G' s' a w'):OpS P o s K:=by
 intro E G a w rd n next Q hs hdst hnext
 obtain⟨G',w',h1,h2⟩:=h E G a w hs;refine⟨λ_ _=>trivial,?_⟩;rw[Oper.semAt_eq _ _ _ hd,h1];show next (a.put o.dst undef) w'
 rw[hn];exact hnext s' G' a w' hK h2 rfl
def req(b:Bool)(K:Prop):Prop:=match b with
 |true=>K
 |false=>False
theorem af{b:Bool}{K:Prop}:req b K↔b=true/\K:=by cases b<;>simp[req]
def y7(op:BinOp)(a b:AV)(K:AV->Prop):Prop:=
 match a,b with
 |.int k x,.int k' y=>req (decide (k=k')) (match op with
  |.add=>K (.int k (k.wrap (x+y)))
  |.sub=>K (.int k (k.wrap (x-y)))
  |.mul=>K (.int k (k.wrap (x*y)))
  |.quo=>y≠0/\K (.int k (k.wrap (x.tdiv y)))
  |.rem=>y≠0/\K (.int k (x.tmod y))
  |.shr=>0<=y/\K (.int k (x/2^min y.toNat k.bits))
  |.eql=>K (.bool (decide (x=y)))
  |.neq=>K (.bool (!decide (x=y)))
  |.lss=>K (.bool (decide (x<y)))
  |.leq=>K (.bool (decide (x<=y)))
  |.gtr=>K (.bool (decide (y<x)))
  |.geq=>K (.bool (decide (y<=x)))
  |_=>False)
 |.str x,.str y=>match op with
  |.add=>x.size+y.size<=lim/\K (.str (x++y))
  |.eql=>K (.bool (decide (x=y)))
  |.neq=>K (.bool (!decide (x=y)))
  |.lss=>K (.bool (Op.bytesLess x.toList y.toList))
  |.leq=>K (.bool (Op.bytesLess x.toList y.toList||decide (x=y)))
  |.gtr=>K (.bool (!(Op.bytesLess x.toList y.toList||decide (x=y))))
  |.geq=>K (.bool (!Op.bytesLess x.toList y.toList))
  |_=>False
 |_,_=>False
theorem bytes_inj{s t:ByteArray}:s.toList=t.toList↔s=t:=by
 rw[ByteArray.toList_eq,ByteArray.toList_eq];exact⟨λh=>ByteArray.ext (Array.toList_inj.mp h),λh=>by rw[h]⟩
theorem sS(x y:ByteArray):(x.toList==y.toList)=decide (x=y):=by
 rw[Bool.eq_iff_iff];simp[bytes_inj]
theorem dn(P:Program)(ρ:Operand->Value)(o:Oper){op:BinOp}{t u:TypeId}{x y:Operand}(ho:o.op=.binOp op t x y u)(w:World)(hx:∀cs,ρ x≠.agg cs)(hn:ρ x≠.nilIface):
  (execOp ρ o).run P w=((binOp op t (ρ x) (ρ y)).run P w).andThen λv w'=>.ok (.value v) w':=by
 have hg:(eqGuard op t x y (ρ x) (ρ y)).run P w=.ok () w:=by
  clear ho;cases op<;>first|rfl|(cases hv:ρ x<;>first|(exact absurd hv (hx _))|(exact absurd hv hn)|(cases ρ y<;>rfl))
 unfold execOp;simp only[ho,ya,hg,yZ,yb]
theorem DJ{P:Program}{s:St}{o:Oper}{op:BinOp}{t u:TypeId}{x y:Operand}(ho:o.op=.binOp op t x y u){rx ry:Opd}(hx:opd x=some rx)(hy:opd y=some ry){K:St->Prop}
  (h:y7 op (s.ev rx) (s.ev ry) λr=>K (s.put o.dst r)):OpS P o s K:=by
 have hd:∀c,o.op≠.defer c:=λc e=>by rw[ho] at e;cases e
 unfold y7 at h;split at h
 .rename_i k p k' q e1 e2;obtain⟨hk0,h2⟩:=af.1 h;have hk:=of_decide_eq_true hk0;clear h hk0;subst hk;have h:=h2;clear h2
  have hrun:∀E G a w,RS E G s a w->a.eval x=.int k p/\a.eval y=.int k q:=λE G a w hs=>
   ⟨by have:=hs.ev hx;rw[e1] at this;exact this.aA,by have:=hs.ev hy;rw[e2] at this;exact this.aA⟩
  have fin:∀r v,K (s.put o.dst r)->(∀M,FV M r v)->(∀w,(binOp op t (.int k p) (.int k q)).run P w=.ok v w)->OpS P o s K:=λr v hK hv hr=>
   OpS.pure r hd hK λE G a w hs=>by
    obtain⟨h1,h2⟩:=hrun E G a w hs;refine⟨v,?_,.flat (hv _)⟩;rw[dn P _ o ho w (by rw[h1];simp) (by rw[h1];simp),h1,h2,hr w];rfl
  cases op
  case add=>exact fin _ _ h (λ_=>.int _ _) λw=>by simp[binOp,Op.intArith]
  case sub=>exact fin _ _ h (λ_=>.int _ _) λw=>by simp[binOp,Op.intArith]
  case mul=>exact fin _ _ h (λ_=>.int _ _) λw=>by simp[binOp,Op.intArith]
  case quo=>exact fin _ _ h.2 (λ_=>.int _ _) λw=>by simp[binOp,Op.intDiv,h.1]
  case rem=>exact fin _ _ h.2 (λ_=>.int _ _) λw=>by simp[binOp,Op.intDiv,h.1]
  case shr=>exact fin _ _ h.2 (λ_=>.int _ _) λw=>by simp[binOp,shift_shr_any _ _ _ _ h.1]
  case eql=>exact fin _ _ h (λ_=>.bool _) λw=>by simp[binOp,Op.intCmp];rfl
  case neq=>exact fin _ _ h (λ_=>.bool _) λw=>by simp[binOp,Op.intCmp];rfl
  case lss=>exact fin _ _ h (λ_=>.bool _) λw=>by simp[binOp,Op.intCmp]
  case leq=>exact fin _ _ h (λ_=>.bool _) λw=>by simp[binOp,Op.intCmp]
  case gtr=>exact fin _ _ h (λ_=>.bool _) λw=>by simp[binOp,Op.intCmp]
  case geq=>exact fin _ _ h (λ_=>.bool _) λw=>by simp[binOp,Op.intCmp]
  all_goals exact h.elim
 .rename_i p q e1 e2
  have hrun:∀E G a w,RS E G s a w->a.eval x=.string p/\a.eval y=.string q:=λE G a w hs=>
   ⟨by have:=hs.ev hx;rw[e1] at this;exact this.cG.1,by have:=hs.ev hy;rw[e2] at this;exact this.cG.1⟩
  have fin:∀r v,K (s.put o.dst r)->(∀M,FV M r v)->(∀w,(binOp op t (.string p) (.string q)).run P w=.ok v w)->OpS P o s K:=λr v hK hv hr=>
   OpS.pure r hd hK λE G a w hs=>by
    obtain⟨h1,h2⟩:=hrun E G a w hs;refine⟨v,?_,.flat (hv _)⟩;rw[dn P _ o ho w (by rw[h1];simp) (by rw[h1];simp),h1,h2,hr w];rfl
  cases op
  case add=>
   refine fin _ _ h.2 (λ_=>.str _ (by have h1:=h.1;rw[ByteArray.size_append];exact h1)) λw=>?_
   have h1:=h.1;have:¬((p.size+q.size:Nat):Int)>IntKind.i64.max:=by ((try unfold glim at h1);(try unfold lim at h1));simp[IntKind.max,IntKind.signed,IntKind.bits];omega
   simp only[binOp,Op.stringOp,if_neg this,yb]
  case eql=>exact fin _ _ h (λ_=>.bool _) λw=>by simp[binOp,Op.stringOp,sS]
  case neq=>exact fin _ _ h (λ_=>.bool _) λw=>by simp[binOp,Op.stringOp,sS]
  case lss=>exact fin _ _ h (λ_=>.bool _) λw=>by simp[binOp,Op.stringOp]
  case leq=>exact fin _ _ h (λ_=>.bool _) λw=>by simp[binOp,Op.stringOp,sS]
  case gtr=>exact fin _ _ h (λ_=>.bool _) λw=>by simp[binOp,Op.stringOp,sS]
  case geq=>exact fin _ _ h (λ_=>.bool _) λw=>by simp[binOp,Op.stringOp]
  all_goals exact h.elim
 .exact h.elim
end Go.AM
