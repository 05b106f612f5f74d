/-
  By an AI agent.
-/
import Derived.Test.YtcjfkbdbcgmomaaGreatDoorQaa
import Derived.CallsIn
set_option linter.unusedSimpArgs false
set_option linter.unusedVariables false
namespace Go.AM
open Go.CK Go.RowKit
structure LB where
 M:Hp
 σ:Nat->Nat
 n:Nat
 r:Loop
 mp:Option (List MapEntry×Nat):=none
 rows:List (Nat×Nat×Obj):=[]
def Ov:AV->Value
 |.bool b=>.bool b
 |.int k n=>.int k n
 |_=>.agg #[]
def vOf:AV->Value
 |.bool b=>.bool b
 |.int k n=>.int k n
 |.agg cs=>.agg (cs.map Ov).toArray
 |_=>.agg #[]
def qx:Nat->List (Int×AV)->List MapEntry
 |_,[]=>[]
 |i,(k,x)::l=>{key:=.int .i64 k,val:=vOf x,born:=i}::qx (i+1) l
def jx(l:List (Int×AV)):Array MapEntry:=(qx 0 l).toArray
def LB.obj(x:LB):Obj:=match x.mp with
 |none=>.loop x.r
 |some (es,n)=>.map es.toArray n
def LB.rs(x:LB):List (Nat×Nat×Obj):=match x.mp with
 |none=>[]
 |some _=>x.rows
theorem LB.LM{x:LB}(h:x.mp=none):x.rs=[]:=by unfold LB.rs;rw[h]
theorem LB.qs{x:LB}(h:x.mp=none):x.obj=.loop x.r:=by unfold LB.obj;rw[h]
theorem LB.ER(x:LB):x.obj.isCells=false:=by
 unfold LB.obj;cases x.mp<;>rfl
theorem LB.ES(x:LB){d:Option (List Deferred)}(h:some (Obj.deferred d)=some x.obj):False:=by
 unfold LB.obj at h;cases a:x.mp<;>rw[a] at h<;>cases h
theorem LB.A4(x:LB){vs:Array Value}{T:TypeId}{q:Nat×Nat}(h:some (Obj.cells vs T q)=some x.obj):False:=by
 have:=x.ER;cases a:x.obj<;>rw[a] at h this<;>first|(cases h;done)|cases this
def mLB(es:List MapEntry)(n:Nat):LB:=⟨λ_ _=>none,λ_=>0,0,default,some (es,n),[]⟩
def L7(l:List (Int×AV)):LB:=mLB (qx 0 l) l.length
def mqE(l:List (Int×AV×Nat)):List MapEntry:=l.map λe=>{key:=.int .i64 e.1,val:=vOf e.2.1,born:=e.2.2}
structure TB where
 es:List MapEntry
 c:Nat
 rows:List (Nat×Nat×Obj)
def TB.lb(x:TB):LB:=⟨λ_ _=>none,λ_=>0,0,default,some (x.es,x.c),x.rows⟩
inductive Box where
 |cells (cs:List AV)
 |dead
 |loop (x:LB)
 |row (cs:List AV)
 |mp (l:List (Int×AV))
 |mq (l:List (Int×AV×Nat)) (c:Nat)
 |tab (x:TB)
instance:Inhabited Box:=⟨.dead⟩
def au:List (Nat×AV)->Nat->Option AV
 |[],_=>none
 |(t,v)::r,k=>match Nat.beq t k with
  |true=>some v
  |false=>au r k
def aT:List (Nat×AV)->Nat->AV->List (Nat×AV)
 |[],k,v=>[(k,v)]
 |(t,u)::r,k,v=>match Nat.beq t k with
  |true=>(k,v)::r
  |false=>match Nat.blt k t with
   |true=>(k,v)::(t,u)::r
   |false=>(t,u)::aT r k v
def eF(f:Nat->Bool):List (Nat×AV)->List (Nat×AV)
 |[]=>[]
 |(t,v)::r=>match f t with
  |true=>(t,v)::eF f r
  |false=>eF f r
theorem cw{a b:Nat}(h:¬a=b):Nat.beq a b=false:=by
 cases hb:Nat.beq a b with
 |false=>rfl
 |true=>exact absurd (zO hb) h
theorem fi:∀(e:List (Nat×AV)) (k:Nat) (v:AV) (j:Nat),au (aT e k v) j=if j=k then some v else au e j
 |[],k,v,j=>by
  simp only[aT,au]
  by_cases h:k=j
  .subst h;simp
  .rw [if_neg (λe=>h e.symm)];have:Nat.beq k j=false:=cw h
   rw[this]
 |(t,u)::r,k,v,j=>by
  simp only[aT]
  by_cases h:t=k
  .subst h;have:Nat.beq t t=true:=by simp
   rw[this];simp only[au]
   by_cases a:t=j
   .subst a;simp
   .have:Nat.beq t j=false:=cw a;rw[this,if_neg (λe=>a e.symm)]
  .have hk:Nat.beq t k=false:=cw h;rw[hk];simp only
   cases hb:Nat.blt k t with
   |true=>
    simp only[au]
    by_cases a:k=j
    .subst a;simp
    .have:Nat.beq k j=false:=cw a
     rw[this,if_neg (λe=>a e.symm)]
   |false=>
    simp only[au]
    by_cases a:t=j
    .subst a;have:Nat.beq t t=true:=by simp
     rw[this,if_neg h]
    .have:Nat.beq t j=false:=cw a;rw[this];exact fi r k v j
theorem nU(f:Nat->Bool):∀(e:List (Nat×AV)) (j:Nat) (v:AV),au (eF f e) j=some v->au e j=some v/\f j=true
 |[],j,v,h=>by cases h
 |(t,u)::r,j,v,h=>by
  simp only[eF] at h
  cases a:f t with
  |true=>
   rw[a] at h;simp only[au] at h|-
   cases hb:Nat.beq t j with
   |true=>rw[hb] at h;simp only at h;have:=zO hb;subst this;exact⟨h,a⟩
   |false=>rw[hb] at h;exact nU f r j v h
  |false=>
   rw[a] at h;simp only at h;obtain⟨c,b⟩:=nU f r j v h;simp only[au]
   cases hb:Nat.beq t j with
   |true=>have:=zO hb;subst this;rw[a] at b;cases b
   |false=>exact⟨c,b⟩
structure St where
 env:List (Nat×AV)
 bs:List Box
 lo:Nat
inductive Pl where
 |sl (t:Nat)
 |bx (b j:Nat)
deriving DecidableEq
def Box.cs?:Box->Option (List AV)
 |.cells cs=>some cs
 |.row (c::cs)=>some (c::cs)
 |_=>none
def Box.lb?:Box->Option LB
 |.loop x=>some x
 |.mp l=>some (L7 l)
 |.mq l c=>some (mLB (mqE l) c)
 |.tab x=>some x.lb
 |_=>none
def aa(bs:List Box)(b:Nat):Option (List AV):=
 match bs[b]? with
 |some x=>x.cs?
 |none=>none
def ah(bs:List Box)(b:Nat):Option LB:=
 match bs[b]? with
 |some x=>x.lb?
 |none=>none
theorem dT(cs:List AV):(Box.row cs).cs? =if cs=[] then none else some cs:=by cases cs<;>rfl
def St.at(s:St):Pl->Option AV
 |.sl t=>au s.env t
 |.bx b j=>(aa s.bs b).bind (·[j]?)
def St.get(s:St)(t:Nat):AV:=match au s.env t with
 |some v=>v
 |none=>.top
def St.put(s:St)(d:Option Nat)(x:AV):St:=match d with
 |some k=>⟨aT s.env k x,s.bs,s.lo⟩
 |none=>s
def St.aU(s:St)(b:Nat)(cs:List AV):St:=⟨s.env,s.bs.set b (.cells cs),s.lo⟩
def St.upd(s:St)(p:Pl)(x:AV):St:=
 match p with
 |.sl t=>⟨aT s.env t x,s.bs,s.lo⟩
 |.bx b j=>match aa s.bs b with
  |some cs=>s.aU b (cs.set j x)
  |none=>s
theorem St.dY(s:St)(k:Nat)(x:AV)(p:Pl):(s.put (some k) x).at p=if p=.sl k then some x else s.at p:=by
 cases p with
 |sl t=>
  simp only[St.put,St.at,fi]
  by_cases h:t=k
  .subst h;simp
  .rw [if_neg h,if_neg (by simpa using h)]
 |bx b j=>simp[St.put,St.at]
theorem a7{bs:List Box}{b:Nat}{cs:List AV}(h:aa bs b=some cs)(ds:List AV)(a:Nat):aa (bs.set b (.cells ds)) a=if a=b then some ds else aa bs a:=by
 have hb:b<bs.length:=by
  rcases zt b bs.length with c|c
  .exact c
  .simp [aa,zR c] at h
 simp only[aa,zq]
 by_cases e:b=a
 .subst e;simp[hb,Box.cs?]
 .rw [if_neg e,if_neg (λx=>e x.symm)]
theorem aC{bs:List Box}{b:Nat}{cs:List AV}(h:aa bs b=some cs):b<bs.length:=by
 rcases zt b bs.length with a|a
 .exact a
 .simp [aa,zR a] at h
theorem aq(bs:List Box)(x:Box)(b:Nat):aa (bs++[x]) b=if b=bs.length then x.cs? else aa bs b:=by
 simp only[aa]
 by_cases h:b<bs.length
 .rw [zK h,if_neg (by omega)]
 .by_cases a:b=bs.length
  .subst a;simp
  .rw [if_neg a,zR (by simp;omega),zR (by omega)]
structure Entry where
 FP:Nat->Prop
 M:Hp
 w:World
 nt:Nat
 nb:Nat
 σ0:Nat->Nat
 dd:List Deferred
structure Gh where
 M:Hp
 σ:Nat->Nat
 cl:Pl->Option Nat
def aw(σ:Nat->Nat)(a:Act)(w:World):Pl->Value
 |.sl t=>a.tmps.getD t undef
 |.bx b j=>(w.cell? ⟨σ b,j,none⟩).getD undef
def mark(D:Nat):Deferred:={target:=.collected D,args:=#[]}
def Spc(σ:Nat->Nat)(bs:List Box)(ds:List Deferred)(B:Nat)(o:Obj):Prop:=(∃b x,ah bs b=some x/\σ b=B/\o=x.obj)\/(mark B∈ds/\o=.deferred (some []))
structure Sp(FP:Nat->Prop)(w0:World)(M:Hp)(σ:Nat->Nat)(cl:Pl->Option Nat)(bs:List Box)(ds dd:List Deferred)(w:World):Prop where
 ob:∀B o,Spc σ bs ds B o->w.heap[B]? =some o/\(∀p,cl p≠some B)/\(FP B\/w0.heap.size<=B)
 base:∀b x,ah bs b=some x->x.M.le M/\x.n<=b/\∀c,c<x.n->σ c=x.σ c
 inj:∀b b' x x',ah bs b=some x->ah bs b'=some x'->σ b=σ b'->b=b'
 ds:∃Ds:List Nat,ds=Ds.map mark++dd/\ds.Nodup
 rows:∀b x,ah bs b=some x->∀j B o,(j,B,o)∈x.rs->w.heap[B]? =some o/\cl (.bx b j)=some B/\∀k,M B k=Option.none
theorem Spc.rP{σ:Nat->Nat}{bs:List Box}{ds:List Deferred}{B:Nat}{o:Obj}(h:Spc σ bs ds B o):o.isCells=false:=by
 rcases h with ⟨b,x,_,_,rfl⟩|⟨_,rfl⟩
 .exact x.ER
 .rfl
theorem aO{bs:List Box}{b:Nat}{x:LB}(h:ah bs b=some x):b<bs.length:=by
 rcases zt b bs.length with a|a
 .exact a
 .simp [ah,zR a] at h
theorem xi{bs:List Box}{b:Nat}(h:(ah bs b).isSome=true):aa bs b=none:=by
 simp only[ah,aa] at h|-;split
 .rename_i x a;rw[a] at h;cases x<;>first|rfl|cases h
 .rfl
theorem Bz{s:St}{b j:Nat}(h:(ah s.bs b).isSome=true):s.at (.bx b j)=none:=by
 simp only[St.at,xi h];rfl
theorem dm{b:Nat}{x:LB}(h:ah [] b=some x):False:=by simp[ah] at h
theorem Sp.none(FP:Nat->Prop)(w0:World)(M:Hp)(σ:Nat->Nat)(cl:Pl->Option Nat)(w:World):Sp FP w0 M σ cl [] [] [] w:=
 ⟨λB o h=>(by rcases h with ⟨b,x,hb,_⟩|⟨h,_⟩;exact(dm hb).elim;cases h),λb x hb=>(dm hb).elim,λb c x a hb=>(dm hb).elim,⟨[],rfl,.nil⟩,λb x hb=>(dm hb).elim⟩
theorem Sp.step{FP FP':Nat->Prop}{w0 m:World}{M M':Hp}{σ σ':Nat->Nat}{cl l:Pl->Option Nat}{bs bs':List Box}{ds dd:List Deferred}{w w':World}(h:Sp FP w0 M σ cl bs ds dd w)(C:M.le M')(r:∀b,b<bs.length->σ' b=σ b)
  (n:∀b x,ah bs' b=some x->ah bs b=some x) (hw:∀(B:Nat) (o:Obj),w.heap[B]? =some o->o.isCells=false->w'.heap[B]? =some o) (s:∀(B:Nat) (o:Obj),w.heap[B]? =some o->o.isCells=false->∀p,l p=some B->∃q,cl q=some B)
  (hm:∀B,FP B\/w0.heap.size<=B->FP' B\/m.heap.size<=B)
  (hr:∀b j B o,(ah bs b).isSome=true->cl (.bx b j)=some B->w.heap[B]? =some o->l (.bx b j)=some B/\w'.heap[B]? =some o/\((∀k,M B k=Option.none)->∀k,M' B k=Option.none):=by exact λ_ _ _ _ _ a d=>⟨a,d,λi=>i⟩):Sp FP' m M' σ' l bs' ds dd w':=by
 refine⟨λB o hs=>?_,λb x hb=>?_,λb t x u hb f e=>?_,h.ds,λb x hb j B o z=>?_⟩
 .have g:Spc σ bs ds B o:=by
   rcases hs with ⟨b,x,hb,e,y⟩|hs
   .have:=n b x hb;exact .inl ⟨b,x,this,by rw[<-r b (aO this)];exact e,y⟩
   .exact .inr hs
  obtain⟨a,d,i⟩:=h.ob B o g;refine⟨hw B o a g.rP,λp hp=>?_,hm B i⟩;obtain⟨q,v⟩:=s B o a g.rP p hp;exact d q v
 .have f:=n b x hb;obtain⟨a,d,i⟩:=h.base b x f;have:=aO f;exact⟨Hp.le_trans a C,d,λc A=>(r c (by omega)).trans (i c A)⟩
 .have a:=n b x hb;have d:=n t u f;exact h.inj b t x u a d (by rw[<-r b (aO a),<-r t (aO d)];exact e)
 .have a:=n b x hb;obtain⟨d,i,G⟩:=h.rows b x a j B o z;obtain⟨F,E,D⟩:=hr b j B o (by rw[a];rfl) i d
  exact⟨E,F,D G⟩
theorem Sp.loops{FP:Nat->Prop}{w0:World}{M:Hp}{σ:Nat->Nat}{cl:Pl->Option Nat}{bs bs':List Box}{ds dd:List Deferred}{w:World}(h:Sp FP w0 M σ cl bs ds dd w)(a:∀b x,ah bs' b=some x->ah bs b=some x):Sp FP w0 M σ cl bs' ds dd w:=
 h.step (Hp.le_refl _) (λ_ _=>rfl) a (λ_ _ k _=>k) (λ_ _ _ _ p k=>⟨p,k⟩) (λ_ k=>k)
theorem DN{bs:List Box}{b:Nat}{cs:List AV}{c:Nat}{x:LB}(h:ah (bs.set b (.cells cs)) c=some x):ah bs c=some x:=by
 by_cases e:b=c
 .subst e
  by_cases hb:b<bs.length
  .simp [ah,hb] at h;cases h
  .simp [ah,hb] at h
 .simp only[ah,zq,if_neg e] at h;exact h
theorem cu{bs:List Box}{y:Box}(a:y.lb? =none){c:Nat}{x:LB}(h:ah (bs++[y]) c=some x):ah bs c=some x:=by
 simp only[ah] at h|-
 by_cases d:c<bs.length
 .rwa [zK d] at h
 .by_cases b:c=bs.length
  .subst b;simp[a] at h
  .rw [zR (by simp;omega)] at h;cases h
def KB:Nat:=1
def KV:List Value:=[1,10,100,1000,10000,100000,1000000,10000000,100000000,1000000000,10000000000,100000000000,1000000000000,10000000000000,100000000000000,1000000000000000,10000000000000000,100000000000000000,1000000000000000000,10000000000000000000].map (Value.int .u64)
structure Kn(M:Hp)(w:World):Prop where
 tb:∃T fz,w.heap[KB]? =some (.cells KV.toArray T fz)
 kn:∀j v,KV[j]? =some v->M KB j=some v
theorem Kn.of{w:World}(h:∃T fz,w.heap[KB]? =some (.cells KV.toArray T fz)):Kn (Hp.of w) w:=⟨h,λj v a=>by
 obtain⟨T,fz,b⟩:=h;simp only[Hp.of,World.cell?,b];simpa using a⟩
theorem Kn.mono{M M':Hp}{w:World}(h:Kn M w)(b:M.le M'):Kn M' w:=⟨h.tb,λj v a=>b _ _ _ (h.kn j v a)⟩
theorem Kn.keep{M:Hp}{w w':World}(h:Kn M w)(a:w'.heap[KB]? =w.heap[KB]?):Kn M w':=⟨by rw[a];exact h.tb,h.kn⟩
theorem Kn.lt{M:Hp}{w:World}(h:Kn M w):KB<w.heap.size:=by
 obtain⟨T,fz,a⟩:=h.tb;exact(zh.1 a).1
theorem Kn.ne{M:Hp}{w:World}(h:Kn M w){B:Nat}(hB:∀o,M B o=none):KB≠B:=λe=>by
 have:=h.kn 0 _ rfl;rw[e,hB] at this;cases this
theorem Kn.neO{M:Hp}{w:World}(h:Kn M w){B:Nat}{o:Obj}(b:w.heap[B]? =some o)(hk:o.isCells=false):KB≠B:=λe=>by
 obtain⟨T,fz,a⟩:=h.tb;rw[e,b] at a;cases a;cases hk
theorem Kn.neR{M:Hp}{w:World}(h:Kn M w){B m:Nat}{vs:Array Value}{T:TypeId}{fz:Nat×Nat}(c:w.heap[B]? =some (.cells vs T fz))(hm:m<vs.size)(b:M B m=none):KB≠B:=λe=>by
 obtain⟨T',d,a⟩:=h.tb;rw[e,c] at a;cases a;have:=h.kn m _ (zA (by simpa using hm))
 rw[e,b] at this;cases this
structure Fr0(FP:Nat->Prop)(M:Hp)(w:World)(M':Hp)(w':World):Prop where
 os:w'.os=w.os
 tape:w'.tape=w.tape
 output:w'.output=w.output
 size:w.heap.size<=w'.heap.size
 le:M.le M'
 heap:∀B,B<w.heap.size->¬FP B->w'.heap[B]? =w.heap[B]?
 mem:∀B,B<w.heap.size->¬FP B->∀o,M' B o=M B o
structure Fr(FP:Nat->Prop)(M:Hp)(w:World)(M':Hp)(w':World):Prop where
 os:w'.os=w.os
 tape:w'.tape=w.tape
 output:w'.output=w.output
 size:w.heap.size<=w'.heap.size
 le:M.le M'
 heap:∀B,B<w.heap.size->¬FP B->w'.heap[B]? =w.heap[B]?
 mem:∀B,B<w.heap.size->¬FP B->∀o,M' B o=M B o
 kn:Kn M' w'
theorem Fr.refl(FP:Nat->Prop)(M:Hp)(w:World)(k:Kn M w):Fr FP M w M w:=⟨rfl,rfl,rfl,zG _,Hp.le_refl _,λ_ _ _=>rfl,λ_ _ _ _=>rfl,k⟩
theorem Fr.trans{FP FP':Nat->Prop}{M M1 M2:Hp}{w c b:World}(h:Fr FP M w M1 c)(k:Fr FP' M1 c M2 b)(hs:∀B,FP' B->FP B\/w.heap.size<=B):Fr FP M w M2 b:=by
 refine⟨k.os.trans h.os,k.tape.trans h.tape,k.output.trans h.output,ZN h.size k.size,Hp.le_trans h.le k.le,λB hB a=>?_,λB hB a o=>?_,k.kn⟩
 .have:¬FP' B:=λe=>by rcases hs B e with e|e;exact a e;omega
  exact(k.heap B (by have:=h.size;omega) this).trans (h.heap B hB a)
 .have:¬FP' B:=λe=>by rcases hs B e with e|e;exact a e;omega
  exact(k.mem B (by have:=h.size;omega) this o).trans (h.mem B hB a o)
theorem Fr0.fr{M M':Hp}{w w':World}(h:Fr0 (λ_=>False) M w M' w')(k:Kn M w):Fr (λ_=>False) M w M' w':=
 ⟨h.os,h.tape,h.output,h.size,h.le,h.heap,h.mem,(k.mono h.le).keep (h.heap KB k.lt (λe=>e))⟩
structure Row(FP:Nat->Prop)(w0:World)(M:Hp)(w:World)(B sz n k:Nat):Prop where
 lt:n<k
 cells:∃(vs:Array Value) (T:TypeId),w.heap[B]? =some (.cells vs T (0,0))/\vs.size=k*sz
 free:∀o,n*sz<=o->M B o=none
 mine:FP B\/w0.heap.size<=B
structure RS(E:Entry)(G:Gh)(s:St)(a:Act)(w:World):Prop where
 fr:Fr E.FP E.M E.w G.M w
 ok:G.M.le (Hp.of w)
 nt:a.tmps.size=E.nt
 val:∀p x,s.at p=some x->RV G.M G.σ s.bs.length x.aI (aw G.σ a w p)
 one:∀b j x,s.at (.bx b j)=some x->(aw G.σ a w (.bx b j)).oneCell'=true
 box:∀b cs,aa s.bs b=some cs->∃(vs:Array Value) (T:TypeId),w.heap[G.σ b]? =some (.cells vs T (0,0))/\cs.length<=vs.size
 bmem:∀b cs,aa s.bs b=some cs->(∀o,G.M (G.σ b) o=none)/\(E.FP (G.σ b)\/E.w.heap.size<=G.σ b)
 inj:∀b b' cs cs',aa s.bs b=some cs->aa s.bs b'=some cs'->G.σ b=G.σ b'->b=b'
 own:∀p z l,s.at p=some (.sl (.own z) l)->∃ad k,aw G.σ a w p=.slice ad l.length k/\(∀y∈l,y.cells.length=z)/\(k=l.length\/∃B,G.cl p=some B/\ad=some ⟨B,0,none⟩/\Row E.FP E.w G.M w B z l.length k)
 clinj:∀p q B,G.cl p=some B->G.cl q=some B->p=q
 clbox:∀p B,G.cl p=some B->∀b cs,aa s.bs b=some cs->G.σ b≠B
 cllt:∀p B,G.cl p=some B->B<w.heap.size/\(E.FP B\/E.w.heap.size<=B)
 lo:s.lo=E.nb
 len:E.nb<=s.bs.length
 sig:∀b,b<E.nb->G.σ b=E.σ0 b
 sp:Sp E.FP E.w G.M G.σ G.cl s.bs a.defers E.dd w
section
variable{E:Entry}{G:Gh}{s:St}{a:Act}{w:World}
theorem RS.blt(h:RS E G s a w){b:Nat}{cs:List AV}(hb:aa s.bs b=some cs):G.σ b<w.heap.size:=by
 obtain⟨vs,T,d,_⟩:=h.box b cs hb;rcases zt (G.σ b) w.heap.size with c|c
 .exact c
 .rw [Zh (by omega)] at d;cases d
theorem bN{w w':World}{B:Nat}(h:w'.heap[B]? =w.heap[B]?)(o:Nat):w'.cell? ⟨B,o,none⟩=w.cell? ⟨B,o,none⟩:=by
 simp only[World.cell?,h]
theorem RS.rp(h:RS E G s a w){bs':List Box}(d:∀b,aa bs' b=aa s.bs b)(i:∀b,ah bs' b=ah s.bs b)(g:bs'.length=s.bs.length):RS E G ⟨s.env,bs',s.lo⟩ a w:=by
 have c:∀p,(⟨s.env,bs',s.lo⟩:St).at p=s.at p:=λp=>by
  cases p with
  |sl t=>rfl
  |bx b j=>simp only[St.at,d]
 exact⟨h.fr,h.ok,h.nt,λp x hp=>by simp only[g];exact h.val p x (by rw[<-c];exact hp),λb j x hp=>h.one b j x (by rw[<-c];exact hp),λb cs hb=>h.box b cs (by rw[<-d];exact hb),λb cs hb=>h.bmem b cs (by rw[<-d];exact hb),λb k cs f hb e=>h.inj b k cs f (by rw[<-d];exact hb) (by rw[<-d];exact e),λp z l hp=>h.own p z l (by rw[<-c];exact hp),h.clinj,λp B hB b cs hb=>h.clbox p B hB b cs (by rw[<-d];exact hb),h.cllt,h.lo,by simp only[g];exact h.len,h.sig,h.sp.loops λb x hb=>by rw[<-i];exact hb⟩
theorem RS.grow(h:RS E G s a w){M':Hp}{w':World}(q:Fr0 (λ_=>False) G.M w M' w')(y:M'.le (Hp.of w')):RS E {G with M:=M'} s a w':=by
 have F:∀B o v,G.M B o=some v->B<w.heap.size:=λB o v e=>Hp.lt h.ok e;have i:∀B,B<w.heap.size->∀o,M' B o=G.M B o:=λB hB o=>q.mem B hB (λe=>e) o;have c:∀B,B<w.heap.size->w'.heap[B]? =w.heap[B]?:=λB hB=>q.heap B hB (λe=>e)
 have g:∀p x,s.at p=some x->aw G.σ a w' p=aw G.σ a w p:=λp x m=>by
  cases p with
  |sl t=>rfl
  |bx b j=>
   simp only[St.at] at m
   cases hb:aa s.bs b with
   |none=>rw[hb] at m;cases m
   |some cs=>simp only[aw];rw[bN (c _ (h.blt hb))]
 refine⟨h.fr.trans (q.fr h.fr.kn) (λ_ e=>e.elim),y,h.nt,λp x m=>?_,λb j x m=>?_,λb cs hb=>?_,λb cs hb=>?_,h.inj,λp z l hp=>?_,h.clinj,h.clbox,λp B hB=>?_,h.lo,h.len,h.sig,h.sp.step q.le (λ_ _=>rfl) (λ_ _ k=>k) (λB o u _=>(c B (zh.1 u).1).trans u) (λ_ _ _ _ p k=>⟨p,k⟩) (λ_ k=>k) (λb j B o _ n f=>⟨n,(c B (zh.1 f).1).trans f,λC k=>(i B (zh.1 f).1 k).trans (C k)⟩)⟩
 .show RV M' G.σ _ _ (aw G.σ a w' p);rw[g p x m];exact(h.val p x m).mono q.le (zG _) (λ_ _=>rfl)
 .show (aw G.σ a w' _).oneCell'=true;rw[g _ x m];exact h.one b j x m
 .obtain ⟨vs,T,n,f⟩:=h.box b cs hb;exact⟨vs,T,(c _ (h.blt hb)).trans n,f⟩
 .obtain ⟨n,f⟩:=h.bmem b cs hb;exact⟨λo=>(i _ (h.blt hb) o).trans (n o),f⟩
 .obtain ⟨I,k,n,D,f⟩:=h.own p z l hp;refine⟨I,k,(g p _ hp).trans n,D,?_⟩;rcases f with f|⟨B,hB,A,d⟩
  .exact .inl f
  .have r:=(h.cllt p B hB).1;obtain⟨vs,T,C,H⟩:=d.cells;exact .inr ⟨B,hB,A,d.lt,⟨vs,T,(c _ r).trans C,H⟩,λo u=>(i _ r o).trans (d.free o u),d.mine⟩
 .obtain ⟨n,f⟩:=h.cllt p B hB;exact⟨ZT n q.size,f⟩
theorem RS.drew(h:RS E G s a w):RS E G s a {w with drawn:=w.drawn+1}:=
 h.grow (M':=G.M) ⟨rfl,rfl,rfl,zG _,Hp.le_refl _,λ_ _ _=>rfl,λ_ _ _ _=>rfl⟩ h.ok
theorem cT{σ:Nat->Nat}(a:Act)(w:World)(k:Nat)(v:Value)(p:Pl)(hk:k<a.tmps.size):aw σ (a.put (some k) v) w p=if p=.sl k then v else aw σ a w p:=by
 cases p with
 |sl t=>
  simp only[aw,Act.put]
  by_cases h:t=k
  .subst h;simp[hk]
  .rw [if_neg (by simpa using h)]
   simp[zW (Ne.symm h)]
 |bx b j=>simp[aw]
theorem RS.put(h:RS E G s a w){k:Nat}(hk:k<E.nt){x:AV}{v:Value}(f:RV G.M G.σ s.bs.length x v):RS E G (s.put (some k) x) (a.put (some k) v) w:=by
 have d:k<a.tmps.size:=by rw[h.nt];exact hk
 have g:(s.put (some k) x).bs=s.bs:=rfl;refine⟨h.fr,h.ok,?_,λp y c=>?_,λb j y c=>?_,h.box,h.bmem,h.inj,λp z l hp=>?_,h.clinj,h.clbox,h.cllt,h.lo,h.len,h.sig,h.sp⟩
 .simp [Act.put,h.nt]
 .rw [St.dY] at c;rw[cT a w k v p d]
  by_cases hp:p=.sl k
  .rw [if_pos hp] at c|-;cases c;rw[f.cr];exact f
  .rw [if_neg hp] at c|-;exact h.val p y c
 .rw [St.dY,if_neg (by simp)] at c
  rw[cT a w k v _ d,if_neg (by simp)]
  exact h.one b j y c
 .rw [St.dY] at hp;rw[cT a w k v p d]
  by_cases e:p=.sl k
  .rw [if_pos e] at hp;cases hp;have:=f.cr;simp[AV.aI] at this
  .rw [if_neg e] at hp|-;exact h.own p z l hp
theorem RS.Nx(h:RS E G s a w){d:Option Nat}(c:∀k,d=some k->k<E.nt){x:AV}{v:Value}(b:RV G.M G.σ s.bs.length x v):RS E G (s.put d x) (a.put d v) w:=by
 cases d with
 |none=>exact h
 |some k=>exact h.put (c k rfl) b
theorem St.eO(s:St){q:Pl}{y:AV}(a:s.at q=some y)(x:AV)(p:Pl):(s.upd q x).at p=if p=q then some x else s.at p:=by
 cases q with
 |sl t=>exact St.dY s t x p
 |bx b j=>
  simp only[St.at] at a
  cases hb:aa s.bs b with
  |none=>rw[hb] at a;cases a
  |some cs=>
   rw[hb] at a;simp only[ZG] at a;simp only[St.upd,hb]
   cases p with
   |sl t=>simp[St.at,St.aU]
   |bx h f=>
    simp only[St.at,St.aU,a7 hb]
    by_cases e:h=b
    .subst e;rw[if_pos rfl];simp only[ZG,zq]
     have g:j<cs.length:=by
      rcases zt j cs.length with c|c
      .exact c
      .rw [zR c] at a;cases a
     by_cases d:j=f
     .subst d;simp[g]
     .rw [if_neg d,if_neg (by simpa using λx=>d x.symm),hb];rfl
    .rw [if_neg e,if_neg (by simp[e])]
theorem St.fk(s:St)(q:Pl)(x:AV):(s.upd q x).bs.length=s.bs.length:=by
 cases q with
 |sl t=>rfl
 |bx b j=>
  simp only[St.upd];cases aa s.bs b<;>simp[St.aU]
theorem St.re(s:St)(q:Pl)(x:AV):(s.upd q x).lo=s.lo:=by
 cases q with
 |sl t=>rfl
 |bx b j=>
  simp only[St.upd];cases aa s.bs b<;>rfl
theorem St.bF(s:St)(q:Pl)(x:AV)(b:Nat)(cs:List AV)(h:aa (s.upd q x).bs b=some cs):∃ds,aa s.bs b=some ds/\ds.length=cs.length:=by
 cases q with
 |sl t=>exact⟨cs,h,rfl⟩
 |bx c j=>
  simp only[St.upd] at h
  cases hb:aa s.bs c with
  |none=>rw[hb] at h;exact⟨cs,h,rfl⟩
  |some es=>
   rw[hb] at h;simp only[St.aU,a7 hb] at h
   by_cases e:b=c
   .subst e;rw[if_pos rfl] at h;cases h;exact⟨es,hb,by simp⟩
   .rw [if_neg e] at h;exact⟨cs,h,rfl⟩
theorem St.kI{s:St}{q:Pl}{x:AV}{b:Nat}{y:LB}(h:ah (s.upd q x).bs b=some y):ah s.bs b=some y:=by
 cases q with
 |sl t=>exact h
 |bx c j=>
  simp only[St.upd] at h
  cases hb:aa s.bs c with
  |none=>rw[hb] at h;exact h
  |some es=>rw[hb] at h;exact DN h
theorem RS.upd(h:RS E G s a w){q:Pl}{y x:AV}(f:s.at q=some y)(g:RV G.M G.σ s.bs.length x (aw G.σ a w q)):RS E G (s.upd q x) a w:=by
 refine⟨h.fr,h.ok,h.nt,λp u hu=>?_,λb j u hu=>?_,λb cs hb=>?_,λb cs hb=>?_,λb r cs o hb i e=>?_,λp z l hp=>?_,h.clinj,λp B hB b cs hb=>?_,h.cllt,(St.re s q x).trans h.lo,by rw[St.fk];exact h.len,h.sig,h.sp.loops λ_ _ k=>St.kI k⟩
 .rw [St.eO s f] at hu;rw[St.fk]
  by_cases hp:p=q
  .rw [if_pos hp] at hu;cases hu;rw[g.cr,hp];exact g
  .rw [if_neg hp] at hu;exact h.val p u hu
 .rw [St.eO s f] at hu
  by_cases hp:Pl.bx b j=q
  .rw [if_pos hp] at hu;exact h.one b j y (hp▸f)
  .rw [if_neg hp] at hu;exact h.one b j u hu
 .obtain ⟨ds,c,A⟩:=s.bF q x b cs hb;obtain⟨vs,T,v,t⟩:=h.box b ds c;exact⟨vs,T,v,ZN (by omega) t⟩
 .obtain ⟨ds,c,A⟩:=s.bF q x b cs hb;exact h.bmem b ds c
 .obtain ⟨ds,c,_⟩:=s.bF q x b cs hb;obtain⟨n,m,_⟩:=s.bF q x r o i;exact h.inj b r ds n c m e
 .rw [St.eO s f] at hp
  by_cases d:p=q
  .rw [if_pos d] at hp;cases hp;have:=g.cr;simp[AV.aI] at this
  .rw [if_neg d] at hp;exact h.own p z l hp
 .obtain ⟨ds,c,_⟩:=s.bF q x b cs hb;exact h.clbox p B hB b ds c
theorem RS.move(h:RS E G s a w){p q:Pl}{z:Nat}{l:List AV}{o:Cap}(I:p≠q)(hp:s.at p=some (.sl (.own z) l))(D:s.at q=some (.sl o l))
  (he:aw G.σ a w q=aw G.σ a w p):RS E {G with cl:=λr=>if r=q then G.cl p else if r=p then none else G.cl r} ((s.upd p (.sl .no l)).upd q (.sl (.own z) l)) a w:=by
 have y:=h.val p _ hp;have N:RS E G (s.upd p (.sl .no l)) a w:=h.upd hp y;have H:(s.upd p (.sl .no l)).at q=some (.sl o l):=by rw[St.eO s hp,if_neg (Ne.symm I)];exact D
 have A:∀r,((s.upd p (.sl .no l)).upd q (.sl (.own z) l)).at r=if r=q then some (.sl (.own z) l) else if r=p then some (.sl .no l) else s.at r:=λr=>by
  rw[St.eO _ H,St.eO s hp]
 have m:∀b cs,aa ((s.upd p (.sl .no l)).upd q (.sl (.own z) l)).bs b=some cs->∃ds,aa s.bs b=some ds/\ds.length=cs.length:=λb cs hb=>by
  obtain⟨ds,n,t⟩:=St.bF _ q _ b cs hb;obtain⟨es,x,C⟩:=St.bF s p _ b ds n;exact⟨es,x,C.trans t⟩
 have hlen:((s.upd p (.sl .no l)).upd q (.sl (.own z) l)).bs.length=s.bs.length:=by rw[St.fk,St.fk]
 refine⟨h.fr,h.ok,h.nt,λr u hu=>?_,λb j u hu=>?_,λb cs hb=>?_,λb cs hb=>?_,λb R cs P hb L e=>?_,λr S l' hr=>?_,λr r' B hr f=>?_,λr B hB b cs hb=>?_,λr B hB=>?_,(St.re _ q _).trans ((St.re s p _).trans h.lo),by rw[hlen];exact h.len,h.sig,h.sp.step (Hp.le_refl _) (λ_ _=>rfl) (λ_ _ k=>St.kI (St.kI k)) (λ_ _ k _=>k) (λB _ _ _ r k=>?_) (λ_ k=>k) (λb j B o N n t=>?_)⟩
 .rw [A] at hu;rw[hlen]
  by_cases hr:r=q
  .rw [if_pos hr] at hu;cases hu;subst hr;rw[he];exact y
  .rw [if_neg hr] at hu
   by_cases v:r=p
   .rw [if_pos v] at hu;cases hu;subst v;exact y
   .rw [if_neg v] at hu;exact h.val r u hu
 .rw [A] at hu
  by_cases hr:Pl.bx b j=q
  .exact h.one b j _ (hr▸D)
  .rw [if_neg hr] at hu
   by_cases v:Pl.bx b j=p
   .exact h.one b j _ (v▸hp)
   .rw [if_neg v] at hu;exact h.one b j u hu
 .obtain ⟨ds,n,t⟩:=m b cs hb;obtain⟨vs,T,x,C⟩:=h.box b ds n;exact⟨vs,T,x,ZN (by omega) C⟩
 .obtain ⟨ds,n,t⟩:=m b cs hb;exact h.bmem b ds n
 .obtain ⟨ds,n,t⟩:=m b cs hb;obtain⟨O,M,U⟩:=m R P L;exact h.inj b R ds O n M e
 .rw [A] at hr
  by_cases c:r=q
  .rw [if_pos c] at hr;cases hr;obtain⟨Q,k,n,F,t⟩:=h.own p z l hp;refine⟨Q,k,by rw[c];exact he.trans n,F,?_⟩
   rcases t with t|⟨B,hB,x,C⟩
   .exact .inl t
   .exact .inr ⟨B,by simp only[c,if_true];exact hB,x,C⟩
  .rw [if_neg c] at hr
   by_cases d:r=p
   .rw [if_pos d] at hr;cases hr
   .rw [if_neg d] at hr;obtain⟨Q,k,n,F,t⟩:=h.own r S l' hr;refine⟨Q,k,n,F,?_⟩;rcases t with t|⟨B,hB,x,C⟩
    .exact .inl t
    .exact .inr ⟨B,by simp only[c,d,if_false];exact hB,x,C⟩
 .simp only at hr f
  by_cases c:r=q
  .rw [if_pos c] at hr
   by_cases i:r'=q
   .rw [c,i]
   .rw [if_neg i] at f
    by_cases g:r'=p
    .rw [if_pos g] at f;cases f
    .rw [if_neg g] at f;exact absurd (h.clinj _ _ B f hr) g
  .rw [if_neg c] at hr
   by_cases d:r=p
   .rw [if_pos d] at hr;cases hr
   .rw [if_neg d] at hr
    by_cases i:r'=q
    .rw [if_pos i] at f;exact absurd (h.clinj _ _ B hr f) d
    .rw [if_neg i] at f
     by_cases g:r'=p
     .rw [if_pos g] at f;cases f
     .rw [if_neg g] at f;exact h.clinj _ _ B hr f
 .obtain ⟨ds,n,t⟩:=m b cs hb;simp only at hB
  by_cases c:r=q
  .rw [if_pos c] at hB;exact h.clbox p B hB b ds n
  .rw [if_neg c] at hB
   by_cases d:r=p
   .rw [if_pos d] at hB;cases hB
   .rw [if_neg d] at hB;exact h.clbox r B hB b ds n
 .simp only at hB
  by_cases c:r=q
  .rw [if_pos c] at hB;exact h.cllt p B hB
  .rw [if_neg c] at hB
   by_cases d:r=p
   .rw [if_pos d] at hB;cases hB
   .rw [if_neg d] at hB;exact h.cllt r B hB
 .simp only at k
  by_cases c:r=q
  .rw [if_pos c] at k;exact⟨p,k⟩
  .rw [if_neg c] at k
   by_cases d:r=p
   .rw [if_pos d] at k;cases k
   .rw [if_neg d] at k;exact⟨r,k⟩
 .have J:Pl.bx b j≠q:=λe=>by rw[<-e,Bz N] at D;cases D
  have K:Pl.bx b j≠p:=λe=>by rw[<-e,Bz N] at hp;cases hp
  exact⟨by simp only[if_neg J,if_neg K];exact n,t,λx=>x⟩
theorem RS.forget(h:RS E G s a w){d:St}{n:Nat}(o:d.bs.length=n)(g:d.lo=s.lo)(e:s.lo<=n)(c:∀p x,d.at p=some x->s.at p=some x/\x.lt n=true)
  (hb:∀b cs,aa d.bs b=some cs->aa s.bs b=some cs) (i:∀b x,ah d.bs b=some x->ah s.bs b=some x):RS E G d a w:=by
 subst o;refine⟨h.fr,h.ok,h.nt,λp x f=>?_,λb j x f=>h.one b j x (c _ _ f).1,λb cs k=>h.box b cs (hb _ _ k),λb cs k=>h.bmem b cs (hb _ _ k),λb t cs m k k'=>h.inj b t cs m (hb _ _ k) (hb _ _ k'),λp z l hp=>h.own p z l (c _ _ hp).1,h.clinj,λp B hB b cs k=>h.clbox p B hB b cs (hb _ _ k),h.cllt,g.trans h.lo,by rw[<-h.lo];exact e,h.sig,h.sp.loops i⟩
 obtain⟨r,q⟩:=c p x f;exact(h.val p x r).lt (by rw[lz];exact q)
theorem RS.nZ(h:RS E G s a w){p:Pl}{l:List AV}(hp:s.at p=some (.sl .full l)){z:Nat}(v:∀y∈l,y.cells.length=z):RS E G (s.upd p (.sl (.own z) l)) a w:=by
 have f:=h.val p _ hp;simp only[AV.aI] at f;refine⟨h.fr,h.ok,h.nt,λr u hu=>?_,λb j u hu=>?_,λb cs hb=>?_,λb cs hb=>?_,λb q cs o hb g e=>?_,λr t l' hr=>?_,h.clinj,λr B hB b cs hb=>?_,h.cllt,(St.re s p _).trans h.lo,by rw[St.fk];exact h.len,h.sig,h.sp.loops λ_ _ k=>St.kI k⟩
 .rw [St.eO s hp] at hu;rw[St.fk]
  by_cases hr:r=p
  .rw [if_pos hr] at hu;cases hu;rw[hr];exact f.ay
  .rw [if_neg hr] at hu;exact h.val r u hu
 .rw [St.eO s hp] at hu
  by_cases hr:Pl.bx b j=p
  .exact h.one b j _ (hr▸hp)
  .rw [if_neg hr] at hu;exact h.one b j u hu
 .obtain ⟨ds,c,i⟩:=s.bF p _ b cs hb;obtain⟨vs,T,A,x⟩:=h.box b ds c;exact⟨vs,T,A,ZN (by omega) x⟩
 .obtain ⟨ds,c,i⟩:=s.bF p _ b cs hb;exact h.bmem b ds c
 .obtain ⟨ds,c,_⟩:=s.bF p _ b cs hb;obtain⟨n,m,_⟩:=s.bF p _ q o g;exact h.inj b q ds n c m e
 .rw [St.eO s hp] at hr
  by_cases d:r=p
  .rw [if_pos d] at hr;cases hr;obtain⟨C,k,B,off,sz,c,_,_,_,i,_⟩:=f.cX;exact⟨C,k,by rw[d];exact c,v,.inl (i rfl)⟩
  .rw [if_neg d] at hr;exact h.own r t l' hr
 .obtain ⟨ds,c,_⟩:=s.bF p _ b cs hb;exact h.clbox r B hB b ds c
end
end Go.AM
namespace Go.AM
open Go.CK Go.RowKit
def F0(rd:Option Nat):Fence:={Fence.wide with round:=rd}
inductive Opd where
 |t (k:Nat)
 |c (x:AV)
deriving Inhabited
def pa:Value->Option AV
 |.bool b=>some (.bool b)
 |.int k n=>some (.int k n)
 |.string s=>if s.size<=lim then some (.str s) else none
 |.pointer none=>some .kB
 |.slice none 0 0=>some (.sl .full [])
 |.map none=>some .nmp
 |.nilFunc=>some .nfn
 |.nilIface=>some .vc
 |_=>none
def o9:List Value->Option (List AV)
 |[]=>some []
 |v::vs=>match pa v,o9 vs with
  |some x,some xs=>some (x::xs)
  |_,_=>none
def cO:Value->Option AV
 |.agg cs=>(o9 cs.toList).map .agg
 |v=>pa v
theorem DT{M:Hp}{v:Value}{x:AV}(h:pa v=some x):FV M x v/\v.oneCell'=true:=by
 unfold pa at h;split at h<;>first|(cases h;done)|skip
 .cases h;exact⟨.bool _,rfl⟩
 .cases h;exact⟨.int _ _,rfl⟩
 .split at h
  .rename_i hs;cases h;exact⟨.str _ hs,rfl⟩
  .cases h
 .cases h;exact⟨.kB,rfl⟩
 .cases h;exact⟨.sl .full [] none 0 0 0 0 (by simp) (zG _) (by simp) (λ_=>rfl) (by simp) (λi h=>by cases h) (λi h=>by cases h) (λi h=>by cases h),rfl⟩
 .cases h;exact⟨.nmp,rfl⟩
 .cases h;exact⟨.nfn,rfl⟩
 .cases h;exact⟨.vc,rfl⟩
theorem wx{M:Hp}:∀{vs:List Value} {xs:List AV},o9 vs=some xs->vs.length=xs.length/\(∀v∈vs,v.oneCell'=true)/\∀j (h:j<xs.length) v,vs[j]? =some v->FV M xs[j] v
 |[],xs,h=>by
  cases h
  exact⟨rfl,(λv c=>by cases c),(λj a=>by cases a)⟩
 |v::vs,xs,h=>by
  simp only[o9] at h;split at h
  .rename_i x b e d;cases h;obtain⟨k,a2⟩:=DT (M:=M) e;obtain⟨i,g,f⟩:=wx (M:=M) d;refine⟨by simp[i],λu hu=>?_,λj a u hu=>?_⟩
   .rcases zI.1 hu with rfl|hu
    .exact a2
    .exact g u hu
   .cases j with
    |zero=>simp at hu;subst hu;exact k
    |succ j=>simp at hu;simp at a;exact f j a u hu
  .cases h
theorem ib{M:Hp}{v:Value}{x:AV}(h:cO v=some x):FV M x v:=by
 unfold cO at h;split at h
 .rename_i cs
  cases a:o9 cs.toList with
  |none=>rw[a] at h;cases h
  |some xs=>
   rw[a] at h;cases h;obtain⟨d,c,b⟩:=wx (M:=M) a;have:=FV.agg xs cs.toList d c b;simpa using this
 .exact (DT h).1
def opd:Operand->Option Opd
 |.tmp t=>some (.t t)
 |.const v=>(cO v).map .c
 |.func f=>some (.c (.fn (.func f) [] []))
 |.global _=>none
def St.ev(s:St):Opd->AV
 |.t k=>(s.get k).aI
 |.c x=>x
theorem St.get_at{s:St}{k:Nat}:s.get k=(s.at (.sl k)).getD .top:=by
 simp only[St.get,St.at];cases au s.env k<;>rfl
section
variable{E:Entry}{G:Gh}{s:St}{a:Act}{w:World}{P:Program}
theorem RS.NX(h:RS E G s a w)(k:Nat):RV G.M G.σ s.bs.length (s.get k).aI (a.tmps.getD k undef):=by
 rw[St.get_at]
 cases hk:s.at (.sl k) with
 |none=>exact .flat (.top _)
 |some x=>exact h.val (.sl k) x hk
theorem RS.ev(h:RS E G s a w){o:Operand}{r:Opd}(b:opd o=some r):RV G.M G.σ s.bs.length (s.ev r) (a.eval o):=by
 cases o with
 |tmp t=>cases b;exact h.NX t
 |const v=>
  simp only[opd] at b
  cases c:cO v with
  |none=>rw[c] at b;cases b
  |some x=>rw[c] at b;cases b;exact .flat (ib c)
 |func f=>cases b;exact .fn _ [] [] [] [] rfl rfl (λj h=>by cases h) (λj h=>by cases h)
 |global g=>cases b
end
def bp:List Operand->Option (List Opd)
 |[]=>some []
 |o::os=>match opd o,bp os with
  |some r,some rs=>some (r::rs)
  |_,_=>none
theorem Cx:∀{os:List Operand} {rs:List Opd},bp os=some rs->os.length=rs.length/\∀(i:Nat) (o:Operand),os[i]? =some o->∃r,rs[i]? =some r/\opd o=some r
 |[],rs,h=>by cases h;exact⟨rfl,λi o a=>by cases a⟩
 |o::os,rs,h=>by
  simp only[bp] at h;split at h
  .rename_i r b f e;cases h;obtain⟨d,c⟩:=Cx e;refine⟨by simp[d],λi o' a=>?_⟩
   cases i with
   |zero=>simp at a;subst a;exact⟨r,rfl,f⟩
   |succ i=>simp at a;simpa using c i o' a
  .cases h
def OpS(P:Program)(o:Oper)(s:St)(K:St->Prop):Prop:=
 ∀(E:Entry) (G:Gh) (a:Act) (w:World) (rd:Option Nat) (n:Nat) (next:Act->World->Prop) (Q:Exit->Act->World->Prop),RS E G s a w->(∀d,o.dst=some d->d<E.nt)->
  (∀c G' b w',K c->RS E G' c b w'->b.defers=a.defers->next b w')->o.wpIn (F0 rd) n P a w next Q
theorem put_defers(a:Act)(d:Option Tmp)(v:Value):(a.put d v).defers=a.defers:=by cases d<;>rfl
theorem OpS.val{P:Program}{o:Oper}{s:St}{K:St->Prop}(x:AV)(e:St)(f:∀c,o.op≠.defer c)(g:K (e.put o.dst x))
  (h:∀E G a w,RS E G s a w->∃v G' w',(execOp a.eval o).run P w=.ok (.value v) w'/\RS E G' e a w'/\RV G'.M G'.σ e.bs.length x v):OpS P o s K:=by
 intro E G a w rd n next Q hs d b
 obtain⟨v,G',w',k,j,i⟩:=h E G a w hs;refine⟨λ_ _=>trivial,?_⟩;rw[Oper.semAt_eq _ _ _ f,k];exact b _ G' _ w' g (j.Nx d i) (put_defers _ _ _)
theorem OpS.pure{P:Program}{o:Oper}{s:St}{K:St->Prop}(x:AV)(b:∀c,o.op≠.defer c)(d:K (s.put o.dst x))
  (h:∀E G a w,RS E G s a w->∃v,(execOp a.eval o).run P w=.ok (.value v) w/\RV G.M G.σ s.bs.length x v):OpS P o s K:=
 OpS.val x s b d λE G a w hs=>let ⟨v,f,e⟩:=h E G a w hs;⟨v,G,w,f,hs,e⟩
theorem OpS.skip{P:Program}{o:Oper}{s:St}{K:St->Prop}(d:St)(g:∀c,o.op≠.defer c)(f:o.dst=none)(i:K d)
  (h:∀E G a w,RS E G s a w->∃G' w',(execOp a.eval o).run P w=.ok .skip w'/\RS E G' d a w'):OpS P o s K:=by
 intro E G a w rd n next Q hs e b
 obtain⟨G',w',k,j⟩:=h E G a w hs;refine⟨λ_ _=>trivial,?_⟩;rw[Oper.semAt_eq _ _ _ g,k];show next (a.put o.dst undef) w'
 rw[f];exact b d G' a w' i j rfl
def req(b:Bool)(K:Prop):Prop:=match b with
 |true=>K
 |false=>False
theorem af{b:Bool}{K:Prop}:req b K↔b=true/\K:=by cases b<;>simp[req]
def Bw(op:BinOp)(a b:AV)(K:AV->Prop):Prop:=
 match a,b with
 |.int k x,.int k' y=>req (decide (k=k')) (match op with
  |.add=>K (.int k (k.wrap (x+y)))
  |.sub=>K (.int k (k.wrap (x-y)))
  |.mul=>K (.int k (k.wrap (x*y)))
  |.quo=>y≠0/\K (.int k (k.wrap (x.tdiv y)))
  |.rem=>y≠0/\K (.int k (x.tmod y))
  |.shr=>0<=y/\K (.int k (x/2^min y.toNat k.bits))
  |.eql=>K (.bool (decide (x=y)))
  |.neq=>K (.bool (!decide (x=y)))
  |.lss=>K (.bool (decide (x<y)))
  |.leq=>K (.bool (decide (x<=y)))
  |.gtr=>K (.bool (decide (y<x)))
  |.geq=>K (.bool (decide (y<=x)))
  |_=>False)
 |.str x,.str y=>match op with
  |.add=>x.size+y.size<=lim/\K (.str (x++y))
  |.eql=>K (.bool (decide (x=y)))
  |.neq=>K (.bool (!decide (x=y)))
  |.lss=>K (.bool (Op.bytesLess x.toList y.toList))
  |.leq=>K (.bool (Op.bytesLess x.toList y.toList||decide (x=y)))
  |.gtr=>K (.bool (!(Op.bytesLess x.toList y.toList||decide (x=y))))
  |.geq=>K (.bool (!Op.bytesLess x.toList y.toList))
  |_=>False
 |_,_=>False
theorem bytes_inj{s t:ByteArray}:s.toList=t.toList↔s=t:=by
 rw[ByteArray.toList_eq,ByteArray.toList_eq];exact⟨λh=>ByteArray.ext (Array.toList_inj.mp h),λh=>by rw[h]⟩
theorem tZ(x y:ByteArray):(x.toList==y.toList)=decide (x=y):=by
 rw[Bool.eq_iff_iff];simp[bytes_inj]
theorem dk(P:Program)(ρ:Operand->Value)(o:Oper){op:BinOp}{t u:TypeId}{x y:Operand}(b:o.op=.binOp op t x y u)(w:World)(c:∀cs,ρ x≠.agg cs)(d:ρ x≠.nilIface):
  (execOp ρ o).run P w=((binOp op t (ρ x) (ρ y)).run P w).andThen λv w'=>.ok (.value v) w':=by
 have e:(eqGuard op t x y (ρ x) (ρ y)).run P w=.ok () w:=by
  clear b;cases op<;>first|rfl|(cases a:ρ x<;>first|(exact absurd a (c _))|(exact absurd a d)|(cases ρ y<;>rfl))
 unfold execOp;simp only[b,yW,e,yV,yX]
theorem FT{P:Program}{s:St}{o:Oper}{op:BinOp}{t u:TypeId}{x y:Operand}(j:o.op=.binOp op t x y u){rx z:Opd}(B:opd x=some rx)(A:opd y=some z){K:St->Prop}
  (h:Bw op (s.ev rx) (s.ev z) λr=>K (s.put o.dst r)):OpS P o s K:=by
 have C:∀c,o.op≠.defer c:=λc e=>by rw[j] at e;cases e
 unfold Bw at h;split at h
 .rename_i k p k' q n m;obtain⟨g,f⟩:=af.1 h;have hk:=of_decide_eq_true g;clear h g;subst hk;have h:=f;clear f
  have b:∀E G a w,RS E G s a w->a.eval x=.int k p/\a.eval y=.int k q:=λE G a w hs=>
   ⟨by have:=hs.ev B;rw[n] at this;exact this.aK,by have:=hs.ev A;rw[m] at this;exact this.aK⟩
  have fin:∀r v,K (s.put o.dst r)->(∀M,FV M r v)->(∀w,(binOp op t (.int k p) (.int k q)).run P w=.ok v w)->OpS P o s K:=λr v l i hr=>
   OpS.pure r C l λE G a w hs=>by
    obtain⟨d,f⟩:=b E G a w hs;refine⟨v,?_,.flat (i _)⟩;rw[dk P _ o j w (by rw[d];simp) (by rw[d];simp),d,f,hr w];rfl
  cases op
  case add=>exact fin _ _ h (λ_=>.int _ _) λw=>by simp[binOp,Op.intArith]
  case sub=>exact fin _ _ h (λ_=>.int _ _) λw=>by simp[binOp,Op.intArith]
  case mul=>exact fin _ _ h (λ_=>.int _ _) λw=>by simp[binOp,Op.intArith]
  case quo=>exact fin _ _ h.2 (λ_=>.int _ _) λw=>by simp[binOp,Op.intDiv,h.1]
  case rem=>exact fin _ _ h.2 (λ_=>.int _ _) λw=>by simp[binOp,Op.intDiv,h.1]
  case shr=>exact fin _ _ h.2 (λ_=>.int _ _) λw=>by simp[binOp,shift_shr_any _ _ _ _ h.1]
  case eql=>exact fin _ _ h (λ_=>.bool _) λw=>by simp[binOp,Op.intCmp];rfl
  case neq=>exact fin _ _ h (λ_=>.bool _) λw=>by simp[binOp,Op.intCmp];rfl
  case lss=>exact fin _ _ h (λ_=>.bool _) λw=>by simp[binOp,Op.intCmp]
  case leq=>exact fin _ _ h (λ_=>.bool _) λw=>by simp[binOp,Op.intCmp]
  case gtr=>exact fin _ _ h (λ_=>.bool _) λw=>by simp[binOp,Op.intCmp]
  case geq=>exact fin _ _ h (λ_=>.bool _) λw=>by simp[binOp,Op.intCmp]
  all_goals exact h.elim
 .rename_i p q n m
  have b:∀E G a w,RS E G s a w->a.eval x=.string p/\a.eval y=.string q:=λE G a w hs=>
   ⟨by have:=hs.ev B;rw[n] at this;exact this.cK.1,by have:=hs.ev A;rw[m] at this;exact this.cK.1⟩
  have fin:∀r v,K (s.put o.dst r)->(∀M,FV M r v)->(∀w,(binOp op t (.string p) (.string q)).run P w=.ok v w)->OpS P o s K:=λr v l i hr=>
   OpS.pure r C l λE G a w hs=>by
    obtain⟨d,f⟩:=b E G a w hs;refine⟨v,?_,.flat (i _)⟩;rw[dk P _ o j w (by rw[d];simp) (by rw[d];simp),d,f,hr w];rfl
  cases op
  case add=>
   refine fin _ _ h.2 (λ_=>.str _ (by have d:=h.1;rw[ByteArray.size_append];exact d)) λw=>?_
   have d:=h.1;have:¬((p.size+q.size:Nat):Int)>IntKind.i64.max:=by unfold lim at d;simp[IntKind.max,IntKind.signed,IntKind.bits];omega
   simp only[binOp,Op.stringOp,if_neg this,yX]
  case eql=>exact fin _ _ h (λ_=>.bool _) λw=>by simp[binOp,Op.stringOp,tZ]
  case neq=>exact fin _ _ h (λ_=>.bool _) λw=>by simp[binOp,Op.stringOp,tZ]
  case lss=>exact fin _ _ h (λ_=>.bool _) λw=>by simp[binOp,Op.stringOp]
  case leq=>exact fin _ _ h (λ_=>.bool _) λw=>by simp[binOp,Op.stringOp,tZ]
  case gtr=>exact fin _ _ h (λ_=>.bool _) λw=>by simp[binOp,Op.stringOp,tZ]
  case geq=>exact fin _ _ h (λ_=>.bool _) λw=>by simp[binOp,Op.stringOp]
  all_goals exact h.elim
 .exact h.elim
end Go.AM
