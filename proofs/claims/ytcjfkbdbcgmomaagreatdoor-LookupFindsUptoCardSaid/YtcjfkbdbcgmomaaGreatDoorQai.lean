/-
  By an AI agent.
-/
import Derived.Test.YtcjfkbdbcgmomaaGreatDoorQah
import Derived.OrdersIn
set_option linter.unusedSimpArgs false
set_option linter.unusedVariables false
namespace Go.AM
open Go.CK Go.RowKit
def Fun(P:Program)(f:FuncId)(ab:List AV)(r:AV):Prop:=∀bs,Sem P f ab bs λr' bs'=>r'=r/\bs'=bs
inductive RX where
 |mov (o:Opd)
 |take (t:Nat)
 |iX (mx:Bool) (x y:Opd)
 |Bh (len sz:Nat) (x i:Opd)
 |mi (agg:Bool) (len sz:Nat) (x i:Opd)
 |slc (sz:Nat) (x:Opd) (lo hi mx:Option Opd)
 |HE (x:Opd) (lo hi:Option Opd)
 |dM (f:Opd) (args:List Opd)
 |pick (c a b:Opd)
 |qu (o:Opd)
 |aL (off:Nat) (o:Opd)
 |idx (sz:Nat) (x i:Opd)
 |pG (x i:Opd)
 |fld (agg:Bool) (off n:Nat) (o:Opd)
 |ext (i:Nat) (o:Opd)
 |len (str:Bool) (o:Opd)
 |un (op:UnOp) (o:Opd)
 |conv (k:Option IntKind) (o:Opd)
 |bin (op:BinOp) (x y:Opd)
 |load (agg:Bool) (n:Nat) (o:Opd)
 |build (zs:List AV) (parts:List (Nat×Nat×Opd))
 |aM (sz:Nat) (rs:List Opd)
 |mk (sz:Nat) (z:AV) (l c:Opd)
 |pD (f:Fn) (xs ys:List Opd)
 |box (o:Opd)
 |store (n:Nat) (p x:Opd)
 |stn (bnd:Nat) (n:Nat) (p x:Opd)
 |lod (bnd:Nat) (agg:Bool) (n:Nat) (o:Opd)
 |append (z:Nat) (s x:Opd)
 |call (f:Opd) (args:List Opd)
 |more (g:mD) (args:List Opd)
 |eff (e:Eff) (args:List Opd)
deriving Inhabited
def J7(bnd:Nat):AV->Bool
 |.ptr b _=>Nat.blt b bnd
 |.ept _=>true
 |_=>false
def RX.pK(rx:RX)(ev:Opd->AV)(rd:AV->Option (List AV))(K:AV->Prop):Prop:=
 match rx with
 |.mov o=>K (ev o)
 |.pick c a b=>xJ (ev c) (ev a) (ev b) K
 |.qu o=>u7 (ev o) K
 |.aL off o=>MW off (ev o) K
 |.idx sz x i=>Ib sz (ev x) (ev i) K
 |.pG x i=>x6 (ev x) (ev i) K
 |.fld agg off n o=>KN agg off n (ev o) K
 |.ext i o=>KQ i (ev o) K
 |.len str o=>H2 str (ev o) K
 |.un op o=>unK op (ev o) K
 |.conv k o=>yj k (ev o) K
 |.bin op x y=>Bw op (ev x) (ev y) K
 |.load agg n o=>bV agg n (rd (ev o)) K
 |.lod bnd agg n o=>req (J7 bnd (ev o)) (bV agg n (rd (ev o)) K)
 |.build h parts=>mJ ev parts h λcs=>K (.agg cs)
 |.aM sz rs=>dR ev sz rs λl=>K (.sl .full l)
 |.mk sz z l c=>mkK sz z (ev l) (ev c) K
 |.pD f xs ys=>K (.fn f (evs ev xs) (evs ev ys))
 |.iX mx x y=>mmK mx (ev x) (ev y) K
 |.Bh d sz x i=>x8 d sz (ev x) (ev i) K
 |.mi agg d sz x i=>C9 agg d sz (ev x) (ev i) K
 |.slc sz x lo e mx=>Et sz (ev x) (lo.map ev) (e.map ev) (mx.map ev) K
 |.HE x lo e=>BU (ev x) (lo.map ev) (e.map ev) K
 |.more g args=>di g (evs ev args) K
 |_=>False
def DH(P:Program)(f:AV):Prop:=
 match f with
 |.fn (.func k) _ _=>dQ P k=true
 |.yl _=>True
 |_=>False
def e9(P:Program)(f:AV)(args:List AV)(K:AV->Prop):Prop:=
 match f with
 |.fn (.func f) xs ys=>∃r,Fun P f ((xs++args++ys).map AV.norm) r/\K r
 |_=>False
def wK(bnd n:Nat)(s:St)(p v:AV)(K:St->Prop):Prop:=
 match p with
 |.ptr b off=>req (Nat.ble bnd b) (bW n s (.ptr b off) v K)
 |_=>False
def RX.run(P:Program)(a:Bool)(rx:RX)(s:St)(d:Option Nat)(K:St->Prop):Prop:=
 match rx with
 |.mov o=>match a with
  |true=>K (s.put d (s.ev o))
  |false=>tv s d o K
 |.take t=>tv s d (.t t) K
 |.dM f args=>DH P (s.ev f)/\(match a with
  |true=>e9 P (s.ev f) (evs s.ev args) λr=>K (s.put d r)
  |false=>jD P s d (s.ev f) (evs s.ev args) K)
 |.box o=>IN s (s.ev o) λr b=>K (b.put d r)
 |.load agg n o=>match a with
  |true=>bV agg n (s.rd (s.ev o)) λr=>K (s.put d r)
  |false=>eA agg n s d (s.ev o) K
 |.store n p x=>match a with
  |true=>bW n s (s.ev p) (s.ev x) K
  |false=>gn n s (s.ev p) x K
 |.stn bnd n p x=>match a with
  |true=>wK bnd n s (s.ev p) (s.ev x) K
  |false=>False
 |.append z o x=>fy z s o (s.ev x) λr b=>K (b.put d r)
 |.call f args=>match a with
  |true=>e9 P (s.ev f) (evs s.ev args) λr=>K (s.put d r)
  |false=>jD P s d (s.ev f) (evs s.ev args) K
 |.eff e args=>match a with
  |true=>False
  |false=>sf e (evs s.ev args) s d K
 |rx=>rx.pK s.ev s.rd λr=>K (s.put d r)
def Bp(P:Program)(fs:Array Field):List (Nat×Operand)->Option (List (Nat×Nat×Opd))
 |[]=>some []
 |(i,x)::r=>match fs[i]?,opd x,Bp P fs r with
  |some f,some rx,some rs=>match dB P f.type with
   |some k=>some ((f.offset,k,rx)::rs)
   |none=>none
  |_,_,_=>none
def Bq(k:Nat):List (Nat×Operand)->Option (List Opd)
 |[]=>some []
 |(i,x)::r=>match Nat.beq i k,opd x,Bq (k+1) r with
  |true,some rx,some rs=>some (rx::rs)
  |_,_,_=>none
def tN(sz:Nat):List (Nat×Operand)->Option (List (Nat×Nat×Opd))
 |[]=>some []
 |(i,x)::r=>match opd x,tN sz r with
  |some rx,some rs=>some ((i*sz,sz,rx)::rs)
  |_,_=>none
def M0(P:Program)(fs:List Field):Bool:=fs.all λf=>(dB P f.type).isSome
def Ob(a:Nat->Nat->Bool)(d:Option Nat)(x:Operand):Option RX:=
 match x,d with
 |.tmp t,some d=>match a d d with
  |true=>some (.more .see [.t t])
  |false=>match a d t with
   |true=>some (.take t)
   |false=>some (.mov (.t t))
 |x,_=>(opd x).map .mov
def O2(P:Program)(op:BinOp)(t:TypeId)(x y:Opd):Option RX:=
 match op,P.underlying t with
 |.eql,some (.struct _)=>(nT P t).map λa=>.more (.eqA false a) [x,y]
 |.neq,some (.struct _)=>(nT P t).map λa=>.more (.eqA true a) [x,y]
 |.eql,some (.slice _)=>match y with
  |.c (.sl .full [])=>some (.eff (.A5 false) [x])
  |_=>none
 |.neq,some (.slice _)=>match y with
  |.c (.sl .full [])=>some (.eff (.A5 true) [x])
  |_=>none
 |.eql,some .bool=>some (.more (.eqB false) [x,y])
 |.neq,some .bool=>some (.more (.eqB true) [x,y])
 |.eql,some (.func _ _ _)=>some (.more (.eqF false) [x,y])
 |.neq,some (.func _ _ _)=>some (.more (.eqF true) [x,y])
 |.eql,some (.pointer _)=>some (.more (.eqP false) [x,y])
 |.neq,some (.pointer _)=>some (.more (.eqP true) [x,y])
 |op,_=>some (.bin op x y)
def vz(a:Nat->Nat->Bool):Option Nat->Bool
 |some d=>a d d
 |none=>false
def OA(a:Nat->Nat->Bool):Opd->Bool
 |.t k=>a (9000+k) (9000+k)
 |_=>false
def OP(a:Nat->Nat->Bool):Option Nat->Bool
 |some k=>a (8000+k) (8000+k)
 |none=>false
def MZ(P:Program)(t u:TypeId)(x y:Operand):Option RX:=
 match P.underlying t,opd x,opd y with
 |some (.slice e),some x,some y=>match P.info? e with
  |some i=>match i.zero with
   |some z=>match cO z with
    |some a=>match Nat.beq z.cells.size i.size&&(Nat.ble i.bytes 4096&&(ba a&&a.flat)),Nat.beq t u,P.underlying u with
     |true,true,_=>some (.eff (.oP i.size) [x,y])
     |true,false,some (.int _)=>some (.eff (.sq i.size) [x,y])
     |_,_,_=>none
    |none=>none
   |none=>none
  |none=>none
 |_,_,_=>none
def O1(x:Opd)(lo a mx:Option Opd):Option RX:=
 match lo,a,mx with
 |none,some h,none=>some (.eff .slN [x,h])
 |_,_,_=>none
def MT(P:Program)(t:TypeId):Bool:=match P.info? t with
 |some i=>match i.zero with
  |some z=>match cO z with
   |some (.agg [.str _,.sl .full []])=>true
   |_=>false
  |none=>false
 |none=>false
def cRX(P:Program)(d:Nat->Nat->Bool)(o:Oper):Option RX:=
  match o.op with
  |.move x|.assign x=>Ob d o.dst x
  |.pick c a b=>match opd c,opd a,opd b with
    |some c,some a,some b=>some (.pick c a b)
    |_,_,_=>none
  |.alloc t=>match P.info? t with
    |some i=>match i.zero with
      |some z=>(cO z).map λx=>.box (.c x)
      |none=>none
    |none=>none
  |.box _ x=>(opd x).map .box
  |.build t ps=>match P.underlying t,P.info? t with
    |some (.struct fs),some i=>match i.zero with
      |some z=>match o9 z.cells.toList,Bp P fs ps.toList with
        |some A,some parts=>if M0 P fs.toList then some (.build A parts) else none
        |_,_=>none
      |none=>none
    |some (.array _ e),some i=>match i.zero,dB P e with
      |some z,some sz=>match o9 z.cells.toList,tN sz ps.toList with
        |some A,some parts=>some (.build A parts)
        |_,_=>none
      |_,_=>none
    |_,_=>none
  |.buildSlice t n ps=>match P.underlying t with
    |some (.slice e)=>match P.info? e,Bq 0 ps.toList with
      |some i,some rs=>if i.zero.isSome&&(decide (n*i.size<=16777216)&&(decide (n<=lim)&&Nat.beq rs.length n)) then (match vz d o.dst with
        |true=>some (.eff (.bsR i.size) rs)
        |false=>some (.aM i.size rs)) else none
      |_,_=>none
    |_=>none
  |.load t x=>match od P t,dB P t,opd x with
    |some agg,some n,some x=>match vz d o.dst with
      |true=>some (.more (.lde agg n) [x])
      |false=>match OP d o.dst with
        |true=>some (.lod 1 agg n x)
        |false=>some (.load agg n x)
    |_,_,_=>none
  |.store t p x=>match dB P t,opd p,opd x,o.dst with
    |some n,some p,some x,none=>match OA d p with
      |true=>some (.stn 1 n p x)
      |false=>some (.store n p x)
    |_,_,_,_=>none
  |.nilCheck x=>(opd x).map .qu
  |.binOp op t x y _=>match opd x,opd y with
    |some x,some y=>O2 P op t x y
    |_,_=>none
  |.unOp op _ x=>(opd x).map (.un op)
  |.convert t u x=>match P.underlying t,P.underlying u,opd x with
    |some _,some (.int k),some x=>some (.conv (some k) x)
    |some (.slice e),some .string,some x=>match P.underlying e with
      |some (.int .u8)=>some (.more .bts [x])
      |_=>none
    |some _,some .string,some x=>some (.conv none x)
    |_,_,_=>none
  |.makeFunc f xs ys=>match bp xs.toList,bp ys.toList with
    |some xs,some ys=>some (.pD f xs ys)
    |_,_=>none
  |.makeSlice t l c=>match P.underlying t with
    |some (.slice e)=>match P.info? e,opd l,opd c with
      |some i,some l,some c=>match i.zero with
        |some z=>match cO z with
          |some x=>if Nat.beq z.cells.size i.size&&(Nat.ble i.bytes 4096&&(ba x&&x.flat))&&o.dst.isSome then (match vz d o.dst with
            |true=>some (.eff (.mkB i.size x) [l,c])
            |false=>some (.mk i.size x l c)) else none
          |none=>none
        |none=>none
      |_,_,_=>none
    |_=>none
  |.fieldAddr t x f=>match P.underlying t,opd x with
    |some (.struct fs),some x=>match fs[f]? with
      |some fd=>match dB P fd.type with
        |some (_+1)=>some (.aL fd.offset x)
        |_=>none
      |none=>none
    |_,_=>none
  |.field t x f=>match P.underlying t,opd x with
    |some (.struct fs),some x=>match fs[f]? with
      |some fd=>match od P fd.type,dB P fd.type with
        |some agg,some n=>some (.fld agg fd.offset n x)
        |_,_=>none
      |none=>none
    |_,_=>none
  |.indexAddr t x i=>match P.underlying t,opd x,opd i with
    |some (.slice e),some x,some i=>match dB P e with
      |some sz=>some (.idx sz x i)
      |none=>none
    |some (.array len e),some x,some i=>match dB P e with
      |some sz=>some (.Bh len sz x i)
      |none=>none
    |_,_,_=>none
  |.index t x i=>match P.underlying t,opd x,opd i with
    |some .string,some x,some i=>some (.pG x i)
    |some (.array len e),some x,some i=>match dB P e,od P e with
      |some sz,some agg=>if agg||Nat.beq sz 1 then some (.mi agg len sz x i) else none
      |_,_=>none
    |_,_,_=>none
  |.slice t x lo w mx=>match P.underlying t,opd x,lY lo,lY w,lY mx with
    |some (.slice e),some x,some lo,some s,some q=>match dB P e with
      |some sz=>match vz d o.dst with
        |true=>O1 x lo s q
        |false=>if !mx.isSome||w.isSome then some (.slc sz x lo s q) else none
      |none=>none
    |some .string,some x,some lo,some w,some _=>match mx with
      |none=>some (.HE x lo w)
      |some _=>none
    |_,_,_,_,_=>none
  |.extract x i=>(opd x).map (.ext i)
  |.call {callee:=.builtin .len,args:=⟨[x]⟩,argTypes:=⟨[t]⟩}=>match P.underlying t,opd x with
    |some .string,some x=>some (.len true x)
    |some (.slice _),some x=>some (.len false x)
    |some (.map _ _),some x=>some (.eff (.tab .H3) [x])
    |_,_=>none
  |.call {callee:=.builtin .cap,args:=⟨[x]⟩,argTypes:=⟨[t]⟩}=>match P.underlying t,opd x with
    |some (.slice _),some x=>some (.more .cap [x])
    |_,_=>none
  |.makeMap t r=>match P.underlying t,lY r with
    |some (.map _ _),some r=>some (.eff .mkM r.toList)
    |_,_=>none
  |.mapUpdate t m k v=>match P.underlying t,opd m,opd k,opd v,o.dst with
    |some (.map kt g),some m,some k,some v,none=>match P.underlying kt with
      |some (.int _)=>match MT P g with
        |true=>some (.eff (.tab .HQ) [m,k,v])
        |false=>some (.eff .BX [m,k,v])
      |some (.struct _)=>(nT P kt).map λB=>.eff (.Nl B) [m,k,v]
      |some .string=>some (.eff (.tab .put) [m,k,v])
      |_=>none
    |_,_,_,_,_=>none
  |.mapEntry t m k=>match P.underlying t,opd m,opd k with
    |some (.map kt g),some m,some k=>match P.underlying kt,P.info? g with
      |some (.int _),some i=>match i.zero with
        |some z=>(cO z).map λh=>.eff (.N4 h) [m,k]
        |none=>none
      |_,_=>none
    |_,_,_=>none
  |.entryStore _ m j v=>match opd m,opd j,opd v,o.dst with
    |some m,some j,some v,none=>some (.eff .Nc [m,j,v])
    |_,_,_,_=>none
  |.lookup t m k ok=>match P.underlying t,opd m,opd k with
    |some (.map kt g),some m,some k=>match P.underlying kt,P.info? g with
      |some (.int _),some i=>match !ok&&MT P g with
        |true=>some (.eff (.tab .Ic) [m,k])
        |false=>match i.zero with
          |some z=>(cO z).map λh=>.eff (.getM ok h) [m,k]
          |none=>none
      |some (.struct _),some i=>match i.zero,nT P kt with
        |some z,some B=>(cO z).map λh=>.eff (.NY B ok h) [m,k]
        |_,_=>none
      |some .string,some i=>match ok,i.zero with
        |false,some z=>match cO z with
          |some (.sl .full [])=>some (.eff (.tab .get) [m,k])
          |_=>none
        |_,_=>none
      |_,_=>none
    |_,_,_=>none
  |.call {callee:=.builtin .delete,args:=⟨[m,k]⟩,argTypes:=⟨[t,_]⟩}=>match P.underlying t,opd m,opd k with
    |some (.map kt _),some m,some k=>match P.underlying kt with
      |some .string=>some (.eff (.tab .del) [m,k])
      |_=>none
    |_,_,_=>none
  |.call {callee:=.builtin .clear,args:=⟨[m]⟩,argTypes:=⟨[t]⟩}=>match P.underlying t,opd m with
    |some (.map _ _),some m=>some (.eff (.tab .clr) [m])
    |_,_=>none
  |.call {callee:=.builtin .append,args:=⟨[x,y]⟩,argTypes:=⟨[t,u]⟩}=>match vz d o.dst with
   |true=>MZ P t u x y
   |false=>match Nat.beq t u,P.underlying t,opd x,opd y with
    |true,some (.slice e),some x,some y=>match P.info? e with
      |some i=>match i.zero with
        |some z=>if Nat.beq z.cells.size i.size&&(Nat.ble i.bytes 4096&&o.dst.isSome) then some (.append i.size x y) else none
        |none=>none
      |none=>none
    |_,_,_,_=>none
  |.call {callee:=.builtin .max,args:=⟨[x,y]⟩,.. }=>match opd x,opd y with
    |some x,some y=>some (.iX true x y)
    |_,_=>none
  |.call {callee:=.builtin .min,args:=⟨[x,y]⟩,.. }=>match opd x,opd y with
    |some x,some y=>some (.iX false x y)
    |_,_=>none
  |.call {callee:=.value f,args:=args,.. }=>match opd f,bp args.toList with
    |some (.c (.fn (.func k) xs ys)),some rs=>if dQ P k then some (.call (.c (.fn (.func k) xs ys)) rs) else none
    |some (.t t),some rs=>some (.dM (.t t) rs)
    |_,_=>none
  |_=>none
theorem wj{P:Program}{fs:Array Field}:∀{ps:List (Nat×Operand)} {parts:List (Nat×Nat×Opd)},Bp P fs ps=some parts->ps.length=parts.length/\
  ∀i (h:i<ps.length) (n:i<parts.length),(∃f,fs[ps[i].1]? =some f/\f.offset=parts[i].1/\dB P f.type=some parts[i].2.1)/\opd ps[i].2=some parts[i].2.2
 |[],parts,h=>by cases h;exact⟨rfl,λi h=>by cases h⟩
 |(i,x)::r,parts,h=>by
  simp only[Bp] at h;split at h
  .rename_i f rx rs m l g;split at h
   .rename_i k e;cases h;obtain⟨d,c⟩:=wj g;refine⟨by simp[d],λj b a=>?_⟩
    cases j with
    |zero=>exact⟨⟨f,m,rfl,e⟩,l⟩
    |succ j=>
     simp only[Zg];exact c j (by simpa using b) (by simpa using a)
   .cases h
  .cases h
theorem s5{sz:Nat}:∀{ps:List (Nat×Operand)} {parts:List (Nat×Nat×Opd)},tN sz ps=some parts->ps.length=parts.length/\
  ∀i (h:i<ps.length) (g:i<parts.length),(ps[i].1*sz=parts[i].1/\parts[i].2.1=sz)/\opd ps[i].2=some parts[i].2.2
 |[],parts,h=>by cases h;exact⟨rfl,λi h=>by cases h⟩
 |(i,x)::r,parts,h=>by
  simp only[tN] at h;split at h
  .rename_i rx rs f e;cases h;obtain⟨d,c⟩:=s5 e;refine⟨by simp[d],λj b a=>?_⟩
   cases j with
   |zero=>exact⟨⟨rfl,rfl⟩,f⟩
   |succ j=>
    simp only[Zg];exact c j (by simpa using b) (by simpa using a)
  .cases h
theorem wm:∀{ps:List (Nat×Operand)} {rs:List Opd} {k:Nat},Bq k ps=some rs->ps.length=rs.length/\∀i (h:i<ps.length) (o:i<rs.length),ps[i].1=k+i/\opd ps[i].2=some rs[i]
 |[],rs,k,h=>by cases h;exact⟨rfl,λi h=>by cases h⟩
 |(i,x)::r,rs,k,h=>by
  simp only[Bq] at h;split at h
  .rename_i rx c b m l;cases h;have b:=zO b;obtain⟨g,f⟩:=wm l;refine⟨by simp[g],λj d a=>?_⟩
   cases j with
   |zero=>exact⟨by simpa using b,m⟩
   |succ j=>
    simp only[Zg];obtain⟨n,e⟩:=f j (by simpa using d) (by simpa using a)
    exact⟨by omega,e⟩
  .cases h
theorem GW(ev:Opd->AV):∀rs:List Opd,evs ev rs=rs.map ev
 |[]=>rfl
 |_::rs=>by rw[evs,GW ev rs];rfl
theorem xN{o:Option Operand}(h:lY o=some none):o=none:=by
 cases o with
 |none=>rfl
 |some x=>
  simp only[lY] at h;split at h<;>cases h
theorem HU{o:Option Operand}{r:Opd}(h:lY o=some (some r)):∃x,o=some x/\opd x=some r:=by
 cases o with
 |none=>cases h
 |some x=>
  simp only[lY] at h;split at h
  .rename_i q a;cases h;exact⟨x,rfl,a⟩
  .cases h
theorem Fun.sem{P:Program}{s:St}{d:Option Nat}{f:AV}{args:List AV}{K:St->Prop}(h:e9 P f args λr=>K (s.put d r)):jD P s d f args K:=by
 unfold e9 at h;split at h
 .rename_i f xs ys;obtain⟨r,b,a⟩:=h;exact⟨_,.inl (b s.bs),λr' bs' ⟨e,c⟩=>by subst e c;exact a⟩
 .exact h.elim
theorem J0{P:Program}{s:St}{o:Oper}{x:Operand}(b:o.op=.move x\/o.op=.assign x){rx:Opd}(d:opd x=some rx){K:St->Prop}(h:K (s.put o.dst (s.ev rx))):OpS P o s K:=by
 have f:∀c,o.op≠.defer c:=λc e=>by rcases b with b|b<;>(rw[b] at e;cases e)
 exact OpS.pure _ f h λE G a w hs=>⟨a.eval x,by unfold execOp;rcases b with b|b<;>simp[b],hs.ev d⟩
theorem wk{P:Program}{k:Nat->Nat->Bool}{o:Oper}{x:Operand}(b:o.op=.move x\/o.op=.assign x){rx:RX}(a:Ob k o.dst x=some rx){j:Bool}{s:St}{K:St->Prop}(h:rx.run P j s o.dst K):OpS P o s K:=by
 have plain:∀r,opd x=some r->rx=.mov r->OpS P o s K:=λr hr e=>by
  subst e
  cases j with
  |true=>exact J0 b hr h
  |false=>exact xQ b hr h
 have rest:(opd x).map .mov=some rx->OpS P o s K:=λa=>by
  cases c:opd x with
  |none=>rw[c] at a;cases a
  |some r=>rw[c] at a;cases a;exact plain r c rfl
 cases x with
 |tmp t=>
  cases i:o.dst with
  |none=>rw[i] at a;exact rest a
  |some d=>
   rw[i] at a;simp only[Ob] at a;split at a
   .cases a;exact J0 b rfl h
   .split at a
    .cases a;exact xQ b rfl h
    .cases a;exact plain _ rfl rfl
 |const v=>exact rest a
 |func f=>exact rest a
 |global g=>exact rest a
set_option maxHeartbeats 1000000 in
theorem yo{P:Program}{tk:Nat->Nat->Bool}{o:Oper}{rx:RX}(g:cRX P tk o=some rx){J:Bool}{s:St}{K:St->Prop}(h:rx.run P J s o.dst K):OpS P o s K:=by
 unfold cRX at g;split at g
 .rename_i x w;exact wk (.inl w) g h
 .rename_i x w;exact wk (.inr w) g h
 .rename_i c a b w;split at g
  .rename_i c' a' b' E D G;cases g;exact EJ w E D G h
  .cases g
 .rename_i t w;split at g
  .rename_i i F;split at g
   .rename_i z L
    cases C:cO z with
    |none=>rw[C] at g;cases g
    |some x=>rw[C] at g;cases g;exact D1 w F L C h
   .cases g
  .cases g
 .rename_i t x w
  cases C:opd x with
  |none=>rw[C] at g;cases g
  |some r=>rw[C] at g;cases g;exact IM w C h
 .rename_i t ps w;split at g
  .rename_i fs i A F;split at g
   .rename_i z L;split at g
    .rename_i zs parts E D;split at g
     .rename_i B;cases g;obtain⟨G,N⟩:=wj D;refine DM w A F L E (λf W=>?_) G N h;simp only[M0,zS] at B;have:=B f (by simpa using W)
      exact yF.1 this
     .cases g
    .cases g
   .cases g
  .rename_i len e i A F;split at g
   .rename_i z sz L M;split at g
    .rename_i zs parts E D;cases g;obtain⟨G,N⟩:=s5 D;exact Br w A M F L E G N h
    .cases g
   .cases g
  .cases g
 .rename_i t n ps w;split at g
  .rename_i e A;split at g
   .rename_i i rs F hr;split at g
    .rename_i B;simp only[zD,decide_eq_true_eq] at B;obtain⟨L,Z,hn,hl⟩:=B;obtain⟨z,L⟩:=yF.1 L;obtain⟨G,N⟩:=wm hr;split at g
     .cases g
      cases J with
      |true=>exact h.elim
      |false=>
       have h:ME i.size (evs s.ev rs) s (λr s'=>K (s'.put o.dst r)):=h;rw[GW] at h;refine IL w A F L rfl Z hn G (zO hl) (λi h h'=>?_) h;obtain⟨S,X⟩:=N i h h';exact⟨by omega,X⟩
     .cases g;refine Bs w A F L rfl Z hn G (zO hl) (λi h h'=>?_) h;obtain⟨S,X⟩:=N i h h';exact⟨by omega,X⟩
    .cases g
   .cases g
  .cases g
 .rename_i t x w;split at g
  .rename_i agg n I E D G;split at g
   .cases g;exact H4 w G E (λ_=>D) h
   .split at g
    .cases g;exact iZ w G E (λ_=>D) (af.1 h).2
    .cases g
     cases J with
     |true=>exact iZ w G E (λ_=>D) h
     |false=>exact CT w G E (λ_=>D) h
  .cases g
 .rename_i t p x w;split at g
  .rename_i n p' I E D G N;split at g
   .cases g
    cases J with
    |true=>
     have h:wK 1 n s (s.ev p') (s.ev I) K:=h;unfold wK at h;split at h
     .rename_i b off hpe;have S:=(af.1 h).2;rw[<-hpe] at S;exact jt w N D G E S
     .exact h.elim
    |false=>exact h.elim
   .cases g
    cases J with
    |true=>exact jt w N D G E h
    |false=>exact Aa w N D G E h
  .cases g
 .rename_i x w
  cases C:opd x with
  |none=>rw[C] at g;cases g
  |some r=>rw[C] at g;cases g;exact CH w C h
 .rename_i op t x y u w;split at g
  .rename_i I y' E D;unfold O2 at g;split at g
   .cases hk:nT P t with
    |none=>rw[hk] at g;cases g
    |some ks=>rw[hk] at g;cases g;exact yi (neg:=false) w E D hk h
   .cases hk:nT P t with
    |none=>rw[hk] at g;cases g
    |some ks=>rw[hk] at g;cases g;exact yi (neg:=true) w E D hk h
   .rename_i A;split at g
    .cases g
     cases J with
     |true=>exact h.elim
     |false=>
      have h:sf (.A5 false) [s.ev I] s o.dst K:=h;cases O:s.ev I<;>rw[O] at h<;>first|exact h.elim|exact u9 (neg:=false) w E (Cy D) A O h
    .cases g
   .rename_i A;split at g
    .cases g
     cases J with
     |true=>exact h.elim
     |false=>
      have h:sf (.A5 true) [s.ev I] s o.dst K:=h;cases O:s.ev I<;>rw[O] at h<;>first|exact h.elim|exact u9 (neg:=true) w E (Cy D) A O h
    .cases g
   .rename_i A;cases g;exact yh (neg:=false) w E D A h
   .rename_i A;cases g;exact yh (neg:=true) w E D A h
   .rename_i A;cases g;exact yg (neg:=false) w E D A h
   .rename_i A;cases g;exact yg (neg:=true) w E D A h
   .rename_i A;cases g;exact yf (neg:=false) w E D A h
   .rename_i A;cases g;exact yf (neg:=true) w E D A h
   .cases g;exact FT w E D h
  .cases g
 .rename_i op t x w
  cases C:opd x with
  |none=>rw[C] at g;cases g
  |some r=>rw[C] at g;cases g;exact Jc w C h
 .rename_i t u x w;split at g
  .rename_i k I E D G;cases g;exact vX (k:=some _) w G E D h
  .rename_i e I E D G;split at g
   .rename_i N;cases g;exact IK w G E N D h
   .cases g
  .rename_i I _ E D G;cases g;exact vX (k:=none) w G E D h
  .cases g
 .rename_i f xs ys w;split at g
  .rename_i xs' ys' E D;cases g;exact EW w E D h
  .cases g
 .rename_i t l c w;split at g
  .rename_i e A;split at g
   .rename_i i l' c' F E D;split at g
    .rename_i z L;split at g
     .rename_i x C;split at g
      .rename_i B;simp only[zD] at B;obtain⟨⟨G,N,S,X⟩,h7⟩:=B;obtain⟨d,hd⟩:=yF.1 h7;split at g
       .cases g
        cases J with
        |true=>exact h.elim
        |false=>exact HY w A F L rfl (zO G) (zr N) C S X E D h
       .cases g;exact J3 w hd A F L rfl (zO G) (zr N) C S X E D h
      .cases g
     .cases g
    .cases g
   .cases g
  .cases g
 .rename_i t x f w;split at g
  .rename_i fs I A C;split at g
   .rename_i fd W;split at g
    .rename_i k hk;cases g;exact FC w C A W hk (by omega) h
    .cases g
   .cases g
  .cases g
 .rename_i t x f w;split at g
  .rename_i fs I A C;split at g
   .rename_i fd W;split at g
    .rename_i agg n E D;cases g;exact Ig w C A W E (λ_=>D) h
    .cases g
   .cases g
  .cases g
 .rename_i t x i w;split at g
  .rename_i e I i' A C F;split at g
   .rename_i sz M;cases g;exact Ia w C F A M h
   .cases g
  .rename_i len e I i' A C F;split at g
   .rename_i sz M;cases g;exact Fu w C F A M h
   .cases g
  .cases g
 .rename_i t x i w;split at g
  .rename_i I i' A C F;cases g;exact Fs w C F A h
  .rename_i len e I i' A C F;split at g
   .rename_i sz agg M ha;split at g
    .rename_i B;cases g;exact Fq w C F A M ha (λe=>by rw[e] at B;simpa using B) h
    .cases g
   .cases g
  .cases g
 .rename_i t x lo F mx w;split at g
  .rename_i e I lo' hi' mx' A C U V hmx;split at g
   .rename_i sz M;split at g
    .unfold O1 at g;split at g
     .rename_i h';cases g;have e1:lo=none:=xN U;have e2:mx=none:=xN hmx;obtain⟨xh,e3,e4⟩:=HU V;subst e1 e2 e3
      cases J with
      |true=>exact h.elim
      |false=>
       have h:Eu (s.ev I) (s.ev h') s o.dst K:=h;unfold Eu at h;split at h
       .rename_i ki n O hhe;obtain⟨h0,hK⟩:=h;subst h0;exact HF w C e4 A M O hhe hK
       .exact h.elim
     .cases g
    .split at g
     .rename_i B;cases g;exact HD w C U V hmx A M (λe=>by rw[e] at B;simpa using B) h
     .cases g
   .cases g
  .rename_i I lo' hi' mx' A C U V hmx;split at g
   .cases g;exact Es w C U V A h
   .cases g
  .cases g
 .rename_i x i w
  cases C:opd x with
  |none=>rw[C] at g;cases g
  |some r=>rw[C] at g;cases g;exact Im w C h
 .rename_i x t w;split at g
  .rename_i I A C;cases g;exact xW w C (.inl ⟨rfl,A⟩) h
  .rename_i e I A C;cases g;exact xW w C (.inr ⟨rfl,e,A⟩) h
  .rename_i kt et I A C;cases g
   cases J with
   |true=>exact h.elim
   |false=>exact DZ w C A h
  .cases g
 .rename_i x t w;split at g
  .rename_i e I A C;cases g;exact II w C A h
  .cases g
 .rename_i t r w;split at g
  .rename_i kt et r' A hr;cases g
   cases J with
   |true=>exact h.elim
   |false=>
    refine xd w hr A ?_
    cases r' with
    |none=>exact⟨trivial,h⟩
    |some q=>
     have h:sf .mkM [s.ev q] s o.dst K:=h;cases hqe:s.ev q<;>rw[hqe] at h<;>first|exact h.elim|skip
     simp only[zM,hqe];exact⟨trivial,h⟩
  .cases g
 .rename_i t m k v w;split at g
  .rename_i kt et m' k' v' A hm hk hv R;split at g
   .rename_i ik H;split at g
    .cases g
     cases J with
     |true=>exact h.elim
     |false=>exact DY w R hm hk hv A H h
    .cases g
     cases J with
     |true=>exact h.elim
     |false=>exact tw w R hm hk hv A H h
   .rename_i fs H
    cases T:nT P kt with
    |none=>rw[T] at g;cases g
    |some ks=>
     rw[T] at g;cases g
     cases J with
     |true=>exact h.elim
     |false=>exact Ew w R hm hk hv A T h
   .rename_i H;cases g
    cases J with
    |true=>exact h.elim
    |false=>exact y6 w R hm hk hv A H h
   .cases g
  .cases g
 .rename_i t m k w;split at g
  .rename_i kt et m' k' A hm hk;split at g
   .rename_i ik i H F;split at g
    .rename_i z L
     cases C:cO z with
     |none=>rw[C] at g;cases g
     |some zx=>
      rw[C] at g;cases g
      cases J with
      |true=>exact h.elim
      |false=>exact FI w hm hk A H F L C h
    .cases g
   .cases g
  .cases g
 .rename_i t m j v w;split at g
  .rename_i m' j' v' hm hj hv R;cases g
   cases J with
   |true=>exact h.elim
   |false=>exact Ep w R hm hj hv h
  .cases g
 .rename_i t m k ok w;split at g
  .rename_i kt et m' k' A hm hk;split at g
   .rename_i ik i H F;split at g
    .rename_i hok;have hok:ok=false:=by cases ok<;>simp_all
     subst hok;cases g
     cases J with
     |true=>exact h.elim
     |false=>exact D0 w hm hk A H h
    .split at g
     .rename_i z L
      cases C:cO z with
      |none=>rw[C] at g;cases g
      |some zx=>
       rw[C] at g;cases g
       cases J with
       |true=>exact h.elim
       |false=>exact A9 w hm hk A H F L C h
     .cases g
   .rename_i fs i H F;split at g
    .rename_i z ks L T
     cases C:cO z with
     |none=>rw[C] at g;cases g
     |some zx=>
      rw[C] at g;cases g
      cases J with
      |true=>exact h.elim
      |false=>exact Fz w hm hk A T F L C h
    .cases g
   .rename_i i H F;split at g
    .rename_i z L;split at g
     .rename_i C;cases g
      cases J with
      |true=>exact h.elim
      |false=>exact y8 w hm hk A H F L C h
     .cases g
    .cases g
   .cases g
  .cases g
 .rename_i m k t u w;split at g
  .rename_i kt et m' k' A hm hk;split at g
   .rename_i H;cases g
    cases J with
    |true=>exact h.elim
    |false=>exact y9 w hm hk A H h
   .cases g
  .cases g
 .rename_i m t w;split at g
  .rename_i kt et m' A hm;cases g
   cases J with
   |true=>exact h.elim
   |false=>exact z6 w hm A h
  .cases g
 .rename_i x y t u w;split at g
  .unfold MZ at g;split at g
   .rename_i e I y' A C Y;split at g
    .rename_i i F;split at g
     .rename_i z L;split at g
      .rename_i zx hzx;split at g
       .rename_i _ B Q;cases g;have Q:=zO Q;subst Q;simp only[zD] at B;obtain⟨G,N,S,X⟩:=B
        cases J with
        |true=>exact h.elim
        |false=>exact FY w A F L rfl (zO G) (zr N) hzx S C Y h
       .rename_i ik B _ hu;cases g;simp only[zD] at B;obtain⟨G,N,S,X⟩:=B
        cases J with
        |true=>exact h.elim
        |false=>exact FX w A hu F L rfl (zO G) (zr N) hzx S X C Y h
       .cases g
      .cases g
     .cases g
    .cases g
   .cases g
  .split at g
   .rename_i e I y' Q A C Y;have Q:=zO Q;subst Q;split at g
    .rename_i i F;split at g
     .rename_i z L;split at g
      .rename_i B;cases g;simp only[zD] at B;obtain⟨G,N,S⟩:=B;obtain⟨d,hd⟩:=yF.1 S;exact BA w hd ⟨A,i,z,F,L,rfl,zO G,zr N⟩ C Y h
      .cases g
     .cases g
    .cases g
   .cases g
 .rename_i x y ts w;split at g
  .rename_i I y' C Y;cases g;exact CJ (mx:=true) w C Y h
  .cases g
 .rename_i x y ts w;split at g
  .rename_i I y' C Y;cases g;exact CJ (mx:=false) w C Y h
  .cases g
 .rename_i f args ts w;split at g
  .rename_i k xs ys rs W hr;split at g
   .rename_i hb;cases g;refine we w W hr (λf' xs' ys' e=>by cases e;exact hb) ?_
    cases J with
    |true=>exact Fun.sem h
    |false=>exact h
   .cases g
  .rename_i t rs W hr;cases g;refine we w W hr (λf' xs' ys' e=>by have:=h.1;rw[e] at this;exact this) ?_
   have D:=h.2
   cases J with
   |true=>exact Fun.sem D
   |false=>exact D
  .cases g
 .cases g
end Go.AM
namespace Go.AM
open Go.CK Go.RowKit
structure ROp where
 dst:Option Nat
 guard:Option (Nat×Bool)
 rx:RX
deriving Inhabited
def gv(want:Bool):AV->Option Bool
 |.bool b=>some b
 |.tup []=>some (!want)
 |_=>none
def ROp.run(P:Program)(a:Bool)(r:ROp)(s:St)(K:St->Prop):Prop:=
 match r.guard with
 |none=>r.rx.run P a s r.dst K
 |some (g,want)=>match gv want (s.ev (.t g)) with
  |some b=>(b=want->r.rx.run P a s r.dst K)/\(b≠want->K (s.put r.dst (.tup [])))
  |none=>False
def AO(P:Program)(a:Bool):List ROp->St->(St->Prop)->Prop
 |[],s,K=>K s
 |r::rs,s,K=>r.run P a s λb=>AO P a rs b K
def cOp(P:Program)(nt:Nat)(a:Nat->Nat->Bool)(ops:Array Oper)(o:Oper):Option ROp:=
 match cRX P a o with
 |some rx=>match o.dst with
  |some d=>if Nat.blt d nt then (match o.guard with
   |none=>some ⟨some d,none,rx⟩
   |some (j,want)=>match (ops[j]?).bind (·.dst) with
    |some g=>some ⟨some d,some (g,want),rx⟩
    |none=>none) else none
  |none=>match o.guard with
   |none=>some ⟨none,none,rx⟩
   |some (j,want)=>match (ops[j]?).bind (·.dst) with
    |some g=>some ⟨none,some (g,want),rx⟩
    |none=>none
 |none=>none
def qX(P:Program)(nt:Nat)(a:Nat->Nat->Bool)(ops:Array Oper):List Oper->Option (List ROp)
 |[]=>some []
 |o::os=>match cOp P nt a ops o,qX P nt a ops os with
  |some r,some rs=>some (r::rs)
  |_,_=>none
structure OpC(P:Program)(nt:Nat)(ops:Array Oper)(o:Oper)(r:ROp):Prop where
 rx:∃tk,cRX P tk o=some r.rx
 dst:o.dst=r.dst
 lt:∀d,o.dst=some d->d<nt
 guard:(o.guard=none/\r.guard=none)\/∃j want g,o.guard=some (j,want)/\(ops[j]?).bind (·.dst)=some g/\r.guard=some (g,want)
theorem La{P:Program}{nt:Nat}{f:Nat->Nat->Bool}{ops:Array Oper}{o:Oper}{r:ROp}(h:cOp P nt f ops o=some r):OpC P nt ops o r:=by
 unfold cOp at h;split at h
 .rename_i rx a;split at h
  .rename_i d b;split at h
   .rename_i i;split at h
    .rename_i c;cases h;exact⟨⟨f,a⟩,b,λl e=>by rw[b] at e;cases e;simpa using i,.inl ⟨c,rfl⟩⟩
    .rename_i j want c;split at h
     .rename_i g k;cases h;exact⟨⟨f,a⟩,b,λl e=>by rw[b] at e;cases e;simpa using i,.inr ⟨j,want,g,c,k,rfl⟩⟩
     .cases h
   .cases h
  .rename_i b;split at h
   .rename_i c;cases h;exact⟨⟨f,a⟩,b,(λl e=>by rw[b] at e;cases e),.inl ⟨c,rfl⟩⟩
   .rename_i j want c;split at h
    .rename_i g k;cases h;exact⟨⟨f,a⟩,b,(λl e=>by rw[b] at e;cases e),.inr ⟨j,want,g,c,k,rfl⟩⟩
    .cases h
 .cases h
theorem iq{P:Program}{nt:Nat}{b:Nat->Nat->Bool}{ops:Array Oper}:∀{os:List Oper} {rs:List ROp},qX P nt b ops os=some rs->os.length=rs.length/\∀(i:Nat) (o:Oper),os[i]? =some o->∃r,rs[i]? =some r/\OpC P nt ops o r
 |[],rs,h=>by cases h;exact⟨rfl,λi o h=>by simp at h⟩
 |o::os,rs,h=>by
  simp only[qX] at h;split at h
  .rename_i r c g f;cases h;obtain⟨e,d⟩:=iq f;refine⟨by simp[e],λi o' a=>?_⟩
   cases i with
   |zero=>simp at a;subst a;exact⟨r,rfl,La g⟩
   |succ i=>simp at a;simpa using d i o' a
  .cases h
section
variable{P:Program}{nt:Nat}{fl:Bool}{ops:Array Oper}{E:Entry}{G:Gh}{s:St}{a:Act}{w:World}{rd:Option Nat}{n:Nat}
theorem iL{o:Oper}{r:ROp}(hc:OpC P nt ops o r){i:Nat}(hi:ops[i]? =some o){dr:Bool}{K:St->Prop}(h:r.run P dr s K)(hs:RS E G s a w)(hnt:E.nt=nt){next:Act->World->Prop}{Q:Exit->Act->World->Prop}
  (hnext:∀s' G' a' w',K s'->RS E G' s' a' w'->a'.defers=a.defers->next a' w'):wpOpIn (F0 rd) n P ops Q i next a w:=by
 have hlt:∀d,o.dst=some d->d<E.nt:=λd hd=>by rw[hnt];exact hc.lt d hd
 unfold wpOpIn;rw[hi];simp only;obtain⟨tk,hrx⟩:=hc.rx;unfold ROp.run at h;rcases hc.guard with ⟨g1,g2⟩|⟨j,want,g,g1,g2,g3⟩
 .rw [g2] at h;simp only at h;have hw:Region.wanted o (yielded ops a.tmps)=true:=by simp[Region.wanted,g1]
  rw[if_pos hw];rw[<-hc.dst] at h;exact yo hrx h E G a w rd n next Q hs hlt hnext
 .rw [g3] at h;simp only at h;split at h
  .rename_i b hgv;have hv:=hs.ev (o:=.tmp g) (r:=.t g) rfl
   have hwant:Region.wanted o (yielded ops a.tmps)=decide (b=want):=by
    have hyv:∀q:Option Bool,(match a.eval (.tmp g) with|.bool b=>some b|_=>none)=q->yielded ops a.tmps j=q:=λq hq=>by
     unfold yielded;rw[g2];simp only[ZG];simp only[Act.eval] at hq
     cases hx:a.tmps[g]? with
     |none=>
      simp[hx] at hq;subst hq
      rfl
     |some u=>
      simp[hx] at hq;cases u<;>exact hq
    generalize s.ev (.t g)=x at hgv hv
    cases x with
    |bool c=>
     have hc2:c=b:=by simpa[gv] using hgv
     have hy:=hyv (some c) (by rw[hv.cS])
     rw[Bool.eq_iff_iff]
     simp[Region.wanted,g1,hy,hc2]
    |tup vs=>
     cases vs with
     |nil=>
      have hc2:(!want)=b:=by simpa[gv] using hgv
      obtain⟨us,e2,hl,_⟩:=hv.tK;have:us=[]:=ZV.1 (by simpa using hl)
      subst this;have hy:=hyv none (by rw[e2])
      rw[<-hc2]
      cases want<;>simp[Region.wanted,g1,hy]
     |cons y ys=>simp[gv] at hgv
    |_=>simp[gv] at hgv
   by_cases hbw:b=want
   .have hw:Region.wanted o (yielded ops a.tmps)=true:=by rw[hwant];simp[hbw]
    rw[if_pos hw];have h1:=h.1 hbw;rw[<-hc.dst] at h1;exact yo hrx h1 E G a w rd n next Q hs hlt hnext
   .have hw:Region.wanted o (yielded ops a.tmps)=false:=by rw[hwant];simp[hbw]
    rw[hw];simp only[ZX,if_false];have h1:=h.2 hbw;rw[<-hc.dst] at h1;exact⟨λ_ _=>trivial,hnext _ G _ w h1 (hs.Nx hlt (.tup [] [] rfl λj hj=>by cases hj)) (put_defers _ _ _)⟩
  .exact h.elim
theorem xx{z:Bool}{Q:Exit->Act->World->Prop}{K:St->Prop}:∀{os:List Oper} {rs:List ROp} {k:Nat} {s:St} {G:Gh} {a:Act} {w:World},os.length=rs.length->(∀(i:Nat) (o:Oper),os[i]? =some o->∃r,rs[i]? =some r/\OpC P nt ops o r)->(∀(i:Nat) (o:Oper),os[i]? =some o->ops[k+i]? =some o)->
  AO P z rs s K->RS E G s a w->E.nt=nt->(∀e G' d w',K e->RS E G' e d w'->d.defers=a.defers->Q .normal d w')->wpOpsIn (F0 rd) n P ops Q (List.range' k os.length) a w
 |[],[],_,_,_,_,_,_,_,_,h,hs,_,l=>l _ _ _ _ h hs rfl
 |o::os,r::rs,k,s,G,a,w,c,p,m,h,hs,b,l=>by
  simp only[zX,List.range'_succ];rw[wpOpsIn_cons];obtain⟨r',hr,g⟩:=p 0 o rfl;simp at hr;subst hr;refine iL g (by simpa using m 0 o rfl) h hs b λe G' d w' u f t=>?_
  exact xx (by simpa using c) (λi o' j=>p (i+1) o' (by simpa using j)) (λi o' j=>by
   have:=m (i+1) o' (by simpa using j)
   rw[show k+1+i=k+(i+1) by omega];exact this) u f b λs2 G2 a2 q y x v=>l s2 G2 a2 q y x (v.trans t)
 |[],_::_,_,_,_,_,_,c,_,_,_,_,_,_=>by simp at c
 |_::_,[],_,_,_,_,_,c,_,_,_,_,_,_=>by simp at c
theorem WP.region{id:Nat}{rs:List ROp}{f:Nat->Nat->Bool}(j:qX P nt f ops ops.toList=some rs){Q:AX->St->Prop}(h:AO P false rs s (Q .normal)):WP P nt fl (.region id ops false) s Q:=λE G a w rd n hs he=>by
 obtain⟨p,m⟩:=iq j;refine wpIn_region ?_;have:=xx (E:=E) (rd:=rd) (n:=n) (Q:=λe d w'=>∃x b G',e=x.up/\Q x b/\RS E G' b d w') (k:=0) p m (λi o g=>by simpa using g) h hs he.1 (λb G' d w' l c _=>⟨.normal,b,G',rfl,l,c⟩)
 rw[List.range_eq_range'];simpa using this
end
end Go.AM
