/-
  Texts of this aQ joined (wip/gen/bundle.py),those declarations only that are needed:AmR AmQ. By an AI agent.
-/
import Derived.Test.YtahnpgfkkngimaaGreatBah
import Derived.OrdersIn
set_option linter.unusedSimpArgs false
set_option linter.unusedVariables false
namespace Go.AM
open Go.CK Go.RowKit
def Fun(P:Program)(f:FuncId)(vals:List AV)(r:AV):Prop:=∀bs,Sem P f vals bs λr' bs'=>r'=r/\bs'=bs
inductive RX where
 |mov (o:Opd)
 |take (t:Nat)
 |c6 (mx:Bool) (x y:Opd)
 |ql (len sz:Nat) (x i:Opd)
 |EZ (agg:Bool) (len sz:Nat) (x i:Opd)
 |slc (sz:Nat) (x:Opd) (lo hi mx:Option Opd)
 |Ez (x:Opd) (lo hi:Option Opd)
 |dD (f:Opd) (args:List Opd)
 |pick (c a b:Opd)
 |iR (o:Opd)
 |aT (off:Nat) (o:Opd)
 |idx (sz:Nat) (x i:Opd)
 |pg (x i:Opd)
 |fld (agg:Bool) (off n:Nat) (o:Opd)
 |ext (i:Nat) (o:Opd)
 |len (str:Bool) (o:Opd)
 |un (op:UnOp) (o:Opd)
 |conv (k:Option IntKind) (o:Opd)
 |bin (op:BinOp) (x y:Opd)
 |load (agg:Bool) (n:Nat) (o:Opd)
 |build (zs:List AV) (parts:List (Nat×Nat×Opd))
 |aG (sz:Nat) (rs:List Opd)
 |mk (sz:Nat) (z:AV) (l c:Opd)
 |ug (f:Fn) (xs ys:List Opd)
 |box (o:Opd)
 |store (n:Nat) (p x:Opd)
 |stn (bnd:Nat) (n:Nat) (p x:Opd)
 |lod (bnd:Nat) (agg:Bool) (n:Nat) (o:Opd)
 |append (z:Nat) (s x:Opd)
 |call (f:Opd) (args:List Opd)
 |more (g:mI) (args:List Opd)
 |eff (e:Eff) (args:List Opd)
deriving Inhabited
def G6(bnd:Nat):AV->Bool
 |.ptr b _=>Nat.blt b bnd
 |.ept _=>true
 |_=>false
def RX.pK(rx:RX)(ev:Opd->AV)(rd:AV->Option (List AV))(K:AV->Prop):Prop:=
 match rx with
 |.mov o=>K (ev o)
 |.pick c a b=>xe (ev c) (ev a) (ev b) K
 |.iR o=>tW (ev o) K
 |.aT off o=>JE off (ev o) K
 |.idx sz x i=>E0 sz (ev x) (ev i) K
 |.pg x i=>xI (ev x) (ev i) K
 |.fld agg off n o=>Hn agg off n (ev o) K
 |.ext i o=>Hq i (ev o) K
 |.len str o=>ET str (ev o) K
 |.un op o=>unK op (ev o) K
 |.conv k o=>xV k (ev o) K
 |.bin op x y=>zj op (ev x) (ev y) K
 |.load agg n o=>bM agg n (rd (ev o)) K
 |.lod bnd agg n o=>req (G6 bnd (ev o)) (bM agg n (rd (ev o)) K)
 |.build zs parts=>mh ev parts zs λcs=>K (.agg cs)
 |.aG sz rs=>dJ ev sz rs λl=>K (.sl .full l)
 |.mk sz z l c=>mkK sz z (ev l) (ev c) K
 |.ug f xs ys=>K (.fn f (evs ev xs) (evs ev ys))
 |.c6 mx x y=>mmK mx (ev x) (ev y) K
 |.ql ln sz x i=>xJ ln sz (ev x) (ev i) K
 |.EZ agg ln sz x i=>AS agg ln sz (ev x) (ev i) K
 |.slc sz x lo hi mx=>B6 sz (ev x) (lo.map ev) (hi.map ev) (mx.map ev) K
 |.Ez x lo hi=>zF (ev x) (lo.map ev) (hi.map ev) K
 |.more g args=>dA g (evs ev args) K
 |_=>False
def Bo(P:Program)(f:AV):Prop:=
 match f with
 |.fn (.func k) _ _=>dI P k=true
 |.yl _=>True
 |_=>False
def eU(P:Program)(f:AV)(args:List AV)(K:AV->Prop):Prop:=
 match f with
 |.fn (.func f) xs ys=>∃r,Fun P f ((xs++args++ys).map AV.norm) r/\K r
 |_=>False
def vT(bnd n:Nat)(s:St)(p v:AV)(K:St->Prop):Prop:=
 match p with
 |.ptr b off=>req (Nat.ble bnd b) (bS n s (.ptr b off) v K)
 |_=>False
def RX.run(P:Program)(dr:Bool)(rx:RX)(s:St)(d:Option Nat)(K:St->Prop):Prop:=
 match rx with
 |.mov o=>match dr with
  |true=>K (s.put d (s.ev o))
  |false=>sR s d o K
 |.take t=>sR s d (.t t) K
 |.dD f args=>Bo P (s.ev f)/\(match dr with
  |true=>eU P (s.ev f) (evs s.ev args) λr=>K (s.put d r)
  |false=>jc P s d (s.ev f) (evs s.ev args) K)
 |.box o=>Fu s (s.ev o) λr s'=>K (s'.put d r)
 |.load agg n o=>match dr with
  |true=>bM agg n (s.rd (s.ev o)) λr=>K (s.put d r)
  |false=>eu agg n s d (s.ev o) K
 |.store n p x=>match dr with
  |true=>bS n s (s.ev p) (s.ev x) K
  |false=>ll n s (s.ev p) x K
 |.stn bnd n p x=>match dr with
  |true=>vT bnd n s (s.ev p) (s.ev x) K
  |false=>False
 |.append z o x=>fj z s o (s.ev x) λr s'=>K (s'.put d r)
 |.call f args=>match dr with
  |true=>eU P (s.ev f) (evs s.ev args) λr=>K (s.put d r)
  |false=>jc P s d (s.ev f) (evs s.ev args) K
 |.eff e args=>match dr with
  |true=>False
  |false=>rN e (evs s.ev args) s d K
 |rx=>rx.pK s.ev s.rd λr=>K (s.put d r)
def za(P:Program)(fs:Array Field):List (Nat×Operand)->Option (List (Nat×Nat×Opd))
 |[]=>some []
 |(i,x)::r=>match fs[i]?,opd x,za P fs r with
  |some f,some rx,some rs=>match dn P f.type with
   |some k=>some ((f.offset,k,rx)::rs)
   |none=>none
  |_,_,_=>none
def zb(k:Nat):List (Nat×Operand)->Option (List Opd)
 |[]=>some []
 |(i,x)::r=>match Nat.beq i k,opd x,zb (k+1) r with
  |true,some rx,some rs=>some (rx::rs)
  |_,_,_=>none
def s9(sz:Nat):List (Nat×Operand)->Option (List (Nat×Nat×Opd))
 |[]=>some []
 |(i,x)::r=>match opd x,s9 sz r with
  |some rx,some rs=>some ((i*sz,sz,rx)::rs)
  |_,_=>none
def JJ(P:Program)(fs:List Field):Bool:=fs.all λf=>(dn P f.type).isSome
def KD(tk:Nat->Nat->Bool)(d:Option Nat)(x:Operand):Option RX:=
 match x,d with
 |.tmp t,some d=>match tk d d with
  |true=>some (.more .see [.t t])
  |false=>match tk d t with
   |true=>some (.take t)
   |false=>some (.mov (.t t))
 |x,_=>(opd x).map .mov
def Lc(P:Program)(op:BinOp)(t:TypeId)(x y:Opd):Option RX:=
 match op,P.underlying t with
 |.eql,some (.struct _)=>(xQ P t).map λks=>.more (.eqA false ks) [x,y]
 |.neq,some (.struct _)=>(xQ P t).map λks=>.more (.eqA true ks) [x,y]
 |.eql,some (.slice _)=>match y with
  |.c (.sl .full [])=>some (.eff (.Cv false) [x])
  |_=>none
 |.neq,some (.slice _)=>match y with
  |.c (.sl .full [])=>some (.eff (.Cv true) [x])
  |_=>none
 |.eql,some .bool=>some (.more (.eqB false) [x,y])
 |.neq,some .bool=>some (.more (.eqB true) [x,y])
 |.eql,some (.func _ _ _)=>some (.more (.eqF false) [x,y])
 |.neq,some (.func _ _ _)=>some (.more (.eqF true) [x,y])
 |op,_=>some (.bin op x y)
def uH(tk:Nat->Nat->Bool):Option Nat->Bool
 |some d=>tk d d
 |none=>false
def KS(tk:Nat->Nat->Bool):Opd->Bool
 |.t k=>tk (9000+k) (9000+k)
 |_=>false
def K4(tk:Nat->Nat->Bool):Option Nat->Bool
 |some k=>tk (8000+k) (8000+k)
 |none=>false
def JI(P:Program)(t u:TypeId)(x y:Operand):Option RX:=
 match P.underlying t,opd x,opd y with
 |some (.slice e),some x,some y=>match P.info? e with
  |some i=>match i.zero with
   |some z=>match dF z with
    |some zx=>match Nat.beq z.cells.size i.size&&(Nat.ble i.bytes 4096&&(aV zx&&zx.flat)),Nat.beq t u,P.underlying u with
     |true,true,_=>some (.eff (.mG i.size) [x,y])
     |true,false,some (.int _)=>some (.eff (.vv i.size) [x,y])
     |_,_,_=>none
    |none=>none
   |none=>none
  |none=>none
 |_,_,_=>none
def Lb(x:Opd)(lo hi mx:Option Opd):Option RX:=
 match lo,hi,mx with
 |none,some h,none=>some (.eff .slN [x,h])
 |_,_,_=>none
def cRX(P:Program)(tk:Nat->Nat->Bool)(o:Oper):Option RX:=
  match o.op with
  |.move x|.assign x=>KD tk o.dst x
  |.pick c a b=>match opd c,opd a,opd b with
    |some c,some a,some b=>some (.pick c a b)
    |_,_,_=>none
  |.alloc t=>match P.info? t with
    |some i=>match i.zero with
      |some z=>(dF z).map λx=>.box (.c x)
      |none=>none
    |none=>none
  |.box _ x=>(opd x).map .box
  |.build t ps=>match P.underlying t,P.info? t with
    |some (.struct fs),some i=>match i.zero with
      |some z=>match oF z.cells.toList,za P fs ps.toList with
        |some zs,some parts=>if JJ P fs.toList then some (.build zs parts) else none
        |_,_=>none
      |none=>none
    |some (.array _ e),some i=>match i.zero,dn P e with
      |some z,some sz=>match oF z.cells.toList,s9 sz ps.toList with
        |some zs,some parts=>some (.build zs parts)
        |_,_=>none
      |_,_=>none
    |_,_=>none
  |.buildSlice t n ps=>match P.underlying t with
    |some (.slice e)=>match P.info? e,zb 0 ps.toList with
      |some i,some rs=>if i.zero.isSome&&(decide (n*i.size<=16777216)&&(decide (n<=glim)&&Nat.beq rs.length n)) then (match uH tk o.dst with
        |true=>some (.eff (.bsR i.size) rs)
        |false=>some (.aG i.size rs)) else none
      |_,_=>none
    |_=>none
  |.load t x=>match nM P t,dn P t,opd x with
    |some agg,some n,some x=>match uH tk o.dst with
      |true=>some (.more (.lde agg n) [x])
      |false=>match K4 tk o.dst with
        |true=>some (.lod 1 agg n x)
        |false=>some (.load agg n x)
    |_,_,_=>none
  |.store t p x=>match dn P t,opd p,opd x,o.dst with
    |some n,some p,some x,none=>match KS tk p with
      |true=>some (.stn 1 n p x)
      |false=>some (.store n p x)
    |_,_,_,_=>none
  |.nilCheck x=>(opd x).map .iR
  |.binOp op t x y _=>match opd x,opd y with
    |some x,some y=>Lc P op t x y
    |_,_=>none
  |.unOp op _ x=>(opd x).map (.un op)
  |.convert t u x=>match P.underlying t,P.underlying u,opd x with
    |some _,some (.int k),some x=>some (.conv (some k) x)
    |some (.slice e),some .string,some x=>match P.underlying e with
      |some (.int .u8)=>some (.more .bts [x])
      |_=>none
    |some _,some .string,some x=>some (.conv none x)
    |_,_,_=>none
  |.makeFunc f xs ys=>match bd xs.toList,bd ys.toList with
    |some xs,some ys=>some (.ug f xs ys)
    |_,_=>none
  |.makeSlice t l c=>match P.underlying t with
    |some (.slice e)=>match P.info? e,opd l,opd c with
      |some i,some l,some c=>match i.zero with
        |some z=>match dF z with
          |some x=>if Nat.beq z.cells.size i.size&&(Nat.ble i.bytes 4096&&(aV x&&x.flat))&&o.dst.isSome then (match uH tk o.dst with
            |true=>some (.eff (.mkB i.size x) [l,c])
            |false=>some (.mk i.size x l c)) else none
          |none=>none
        |none=>none
      |_,_,_=>none
    |_=>none
  |.fieldAddr t x f=>match P.underlying t,opd x with
    |some (.struct fs),some x=>match fs[f]? with
      |some fd=>match dn P fd.type with
        |some (_+1)=>some (.aT fd.offset x)
        |_=>none
      |none=>none
    |_,_=>none
  |.field t x f=>match P.underlying t,opd x with
    |some (.struct fs),some x=>match fs[f]? with
      |some fd=>match nM P fd.type,dn P fd.type with
        |some agg,some n=>some (.fld agg fd.offset n x)
        |_,_=>none
      |none=>none
    |_,_=>none
  |.indexAddr t x i=>match P.underlying t,opd x,opd i with
    |some (.slice e),some x,some i=>match dn P e with
      |some sz=>some (.idx sz x i)
      |none=>none
    |some (.array len e),some x,some i=>match dn P e with
      |some sz=>some (.ql len sz x i)
      |none=>none
    |_,_,_=>none
  |.index t x i=>match P.underlying t,opd x,opd i with
    |some .string,some x,some i=>some (.pg x i)
    |some (.array len e),some x,some i=>match dn P e,nM P e with
      |some sz,some agg=>if agg||Nat.beq sz 1 then some (.EZ agg len sz x i) else none
      |_,_=>none
    |_,_,_=>none
  |.slice t x lo hi mx=>match P.underlying t,opd x,lG lo,lG hi,lG mx with
    |some (.slice e),some x,some lo,some hi',some mx'=>match dn P e with
      |some sz=>match uH tk o.dst with
        |true=>Lb x lo hi' mx'
        |false=>if !mx.isSome||hi.isSome then some (.slc sz x lo hi' mx') else none
      |none=>none
    |some .string,some x,some lo,some hi,some _=>match mx with
      |none=>some (.Ez x lo hi)
      |some _=>none
    |_,_,_,_,_=>none
  |.extract x i=>(opd x).map (.ext i)
  |.call {callee:=.builtin .len,args:=⟨[x]⟩,argTypes:=⟨[t]⟩}=>match P.underlying t,opd x with
    |some .string,some x=>some (.len true x)
    |some (.slice _),some x=>some (.len false x)
    |_,_=>none
  |.call {callee:=.builtin .cap,args:=⟨[x]⟩,argTypes:=⟨[t]⟩}=>match P.underlying t,opd x with
    |some (.slice _),some x=>some (.more .cap [x])
    |_,_=>none
  |.makeMap t r=>match P.underlying t,lG r with
    |some (.map _ _),some r=>some (.eff .mkM r.toList)
    |_,_=>none
  |.mapUpdate t m k v=>match P.underlying t,opd m,opd k,opd v,o.dst with
    |some (.map kt _),some m,some k,some v,none=>match P.underlying kt with
      |some (.int _)=>some (.eff .vV [m,k,v])
      |some (.struct _)=>(xQ P kt).map λks=>.eff (.OU ks) [m,k,v]
      |_=>none
    |_,_,_,_,_=>none
  |.mapEntry t m k=>match P.underlying t,opd m,opd k with
    |some (.map kt et),some m,some k=>match P.underlying kt,P.info? et with
      |some (.int _),some i=>match i.zero with
        |some z=>(dF z).map λzx=>.eff (.Hy zx) [m,k]
        |none=>none
      |_,_=>none
    |_,_,_=>none
  |.entryStore _ m j v=>match opd m,opd j,opd v,o.dst with
    |some m,some j,some v,none=>some (.eff .F4 [m,j,v])
    |_,_,_,_=>none
  |.lookup t m k ok=>match P.underlying t,opd m,opd k with
    |some (.map kt et),some m,some k=>match P.underlying kt,P.info? et with
      |some (.int _),some i=>match i.zero with
        |some z=>(dF z).map λzx=>.eff (.getM ok zx) [m,k]
        |none=>none
      |some (.struct _),some i=>match i.zero,xQ P kt with
        |some z,some ks=>(dF z).map λzx=>.eff (.OF ks ok zx) [m,k]
        |_,_=>none
      |_,_=>none
    |_,_,_=>none
  |.call {callee:=.builtin .append,args:=⟨[x,y]⟩,argTypes:=⟨[t,u]⟩}=>match uH tk o.dst with
   |true=>JI P t u x y
   |false=>match Nat.beq t u,P.underlying t,opd x,opd y with
    |true,some (.slice e),some x,some y=>match P.info? e with
      |some i=>match i.zero with
        |some z=>if Nat.beq z.cells.size i.size&&(Nat.ble i.bytes 4096&&o.dst.isSome) then some (.append i.size x y) else none
        |none=>none
      |none=>none
    |_,_,_,_=>none
  |.call {callee:=.builtin .max,args:=⟨[x,y]⟩,.. }=>match opd x,opd y with
    |some x,some y=>some (.c6 true x y)
    |_,_=>none
  |.call {callee:=.builtin .min,args:=⟨[x,y]⟩,.. }=>match opd x,opd y with
    |some x,some y=>some (.c6 false x y)
    |_,_=>none
  |.call {callee:=.value f,args:=args,.. }=>match opd f,bd args.toList with
    |some (.c (.fn (.func k) xs ys)),some rs=>if dI P k then some (.call (.c (.fn (.func k) xs ys)) rs) else none
    |some (.t t),some rs=>some (.dD (.t t) rs)
    |_,_=>none
  |_=>none
theorem vi{P:Program}{fs:Array Field}:∀{ps:List (Nat×Operand)} {parts:List (Nat×Nat×Opd)},za P fs ps=some parts->ps.length=parts.length/\
  ∀i (h:i<ps.length) (h':i<parts.length),(∃f,fs[ps[i].1]? =some f/\f.offset=parts[i].1/\dn P f.type=some parts[i].2.1)/\opd ps[i].2=some parts[i].2.2
 |[],parts,h=>by cases h;exact⟨rfl,λi h=>by cases h⟩
 |(i,x)::r,parts,h=>by
  simp only[za] at h;split at h
  .rename_i f rx rs h1 h2 h3;split at h
   .rename_i k h4;cases h;obtain⟨h5,h6⟩:=vi h3;refine⟨by simp[h5],λj hj hj'=>?_⟩
    cases j with
    |zero=>exact⟨⟨f,h1,rfl,h4⟩,h2⟩
    |succ j=>
     simp only[Yj];exact h6 j (by simpa using hj) (by simpa using hj')
   .cases h
  .cases h
theorem sC{sz:Nat}:∀{ps:List (Nat×Operand)} {parts:List (Nat×Nat×Opd)},s9 sz ps=some parts->ps.length=parts.length/\
  ∀i (h:i<ps.length) (h':i<parts.length),(ps[i].1*sz=parts[i].1/\parts[i].2.1=sz)/\opd ps[i].2=some parts[i].2.2
 |[],parts,h=>by cases h;exact⟨rfl,λi h=>by cases h⟩
 |(i,x)::r,parts,h=>by
  simp only[s9] at h;split at h
  .rename_i rx rs h1 h2;cases h;obtain⟨h3,h4⟩:=sC h2;refine⟨by simp[h3],λj hj hj'=>?_⟩
   cases j with
   |zero=>exact⟨⟨rfl,rfl⟩,h1⟩
   |succ j=>
    simp only[Yj];exact h4 j (by simpa using hj) (by simpa using hj')
  .cases h
theorem vk:∀{ps:List (Nat×Operand)} {rs:List Opd} {k:Nat},zb k ps=some rs->ps.length=rs.length/\∀i (h:i<ps.length) (h':i<rs.length),ps[i].1=k+i/\opd ps[i].2=some rs[i]
 |[],rs,k,h=>by cases h;exact⟨rfl,λi h=>by cases h⟩
 |(i,x)::r,rs,k,h=>by
  simp only[zb] at h;split at h
  .rename_i rx rs' h1 h2 h3;cases h;have h1:=ZO h1;obtain⟨h5,h6⟩:=vk h3;refine⟨by simp[h5],λj hj hj'=>?_⟩
   cases j with
   |zero=>exact⟨by simpa using h1,h2⟩
   |succ j=>
    simp only[Yj];obtain⟨h7,h8⟩:=h6 j (by simpa using hj) (by simpa using hj')
    exact⟨by omega,h8⟩
  .cases h
theorem DV(ev:Opd->AV):∀rs:List Opd,evs ev rs=rs.map ev
 |[]=>rfl
 |_::rs=>by rw[evs,DV ev rs];rfl
theorem xi{o:Option Operand}(h:lG o=some none):o=none:=by
 cases o with
 |none=>rfl
 |some x=>
  simp only[lG] at h;split at h<;>cases h
theorem EI{o:Option Operand}{r:Opd}(h:lG o=some (some r)):∃x,o=some x/\opd x=some r:=by
 cases o with
 |none=>cases h
 |some x=>
  simp only[lG] at h;split at h
  .rename_i q hq;cases h;exact⟨x,rfl,hq⟩
  .cases h
theorem Fun.sem{P:Program}{s:St}{d:Option Nat}{f:AV}{args:List AV}{K:St->Prop}(h:eU P f args λr=>K (s.put d r)):jc P s d f args K:=by
 unfold eU at h;split at h
 .rename_i f xs ys;obtain⟨r,h1,h2⟩:=h;exact⟨_,.inl (h1 s.bs),λr' bs' ⟨e1,e2⟩=>by subst e1 e2;exact h2⟩
 .exact h.elim
theorem GR{P:Program}{s:St}{o:Oper}{x:Operand}(ho:o.op=.move x\/o.op=.assign x){rx:Opd}(hx:opd x=some rx){K:St->Prop}(h:K (s.put o.dst (s.ev rx))):OpS P o s K:=by
 have hd:∀c,o.op≠.defer c:=λc e=>by rcases ho with ho|ho<;>(rw[ho] at e;cases e)
 exact OpS.pure _ hd h λE G a w hs=>⟨a.eval x,by unfold execOp;rcases ho with ho|ho<;>simp[ho],hs.ev hx⟩
theorem vj{P:Program}{tk:Nat->Nat->Bool}{o:Oper}{x:Operand}(ho:o.op=.move x\/o.op=.assign x){rx:RX}(hc:KD tk o.dst x=some rx){dr:Bool}{s:St}{K:St->Prop}(h:rx.run P dr s o.dst K):OpS P o s K:=by
 have plain:∀r,opd x=some r->rx=.mov r->OpS P o s K:=λr hr e=>by
  subst e
  cases dr with
  |true=>exact GR ho hr h
  |false=>exact xq ho hr h
 have rest:(opd x).map .mov=some rx->OpS P o s K:=λhc=>by
  cases hx:opd x with
  |none=>rw[hx] at hc;cases hc
  |some r=>rw[hx] at hc;cases hc;exact plain r hx rfl
 cases x with
 |tmp t=>
  cases hd:o.dst with
  |none=>rw[hd] at hc;exact rest hc
  |some d=>
   rw[hd] at hc;simp only[KD] at hc;split at hc
   .cases hc;exact GR ho rfl h
   .split at hc
    .cases hc;exact xq ho rfl h
    .cases hc;exact plain _ rfl rfl
 |const v=>exact rest hc
 |func f=>exact rest hc
 |global g=>exact rest hc
set_option maxHeartbeats 1000000 in
theorem xX{P:Program}{tk:Nat->Nat->Bool}{o:Oper}{rx:RX}(hc:cRX P tk o=some rx){dr:Bool}{s:St}{K:St->Prop}(h:rx.run P dr s o.dst K):OpS P o s K:=by
 unfold cRX at hc;split at hc
 .rename_i x ho;exact vj (.inl ho) hc h
 .rename_i x ho;exact vj (.inr ho) hc h
 .rename_i c a b ho;split at hc
  .rename_i c' a' b' h1 h2 h3;cases hc;exact Cj ho h1 h2 h3 h
  .cases hc
 .rename_i t ho;split at hc
  .rename_i i hi;split at hc
   .rename_i z hz
    cases hx:dF z with
    |none=>rw[hx] at hc;cases hc
    |some x=>rw[hx] at hc;cases hc;exact BJ ho hi hz hx h
   .cases hc
  .cases hc
 .rename_i t x ho
  cases hx:opd x with
  |none=>rw[hx] at hc;cases hc
  |some r=>rw[hx] at hc;cases hc;exact Fs ho hx h
 .rename_i t ps ho;split at hc
  .rename_i fs i ht hi;split at hc
   .rename_i z hz;split at hc
    .rename_i zs parts h1 h2;split at hc
     .rename_i hall;cases hc;obtain⟨h3,h4⟩:=vi h2;refine Bt ho ht hi hz h1 (λf hf=>?_) h3 h4 h;simp only[JJ,ZS] at hall;have:=hall f (by simpa using hf)
      exact XQ.1 this
     .cases hc
    .cases hc
   .cases hc
  .rename_i len e i ht hi;split at hc
   .rename_i z sz hz hsz;split at hc
    .rename_i zs parts h1 h2;cases hc;obtain⟨h3,h4⟩:=sC h2;exact zf ho ht hsz hi hz h1 h3 h4 h
    .cases hc
   .cases hc
  .cases hc
 .rename_i t n ps ho;split at hc
  .rename_i e ht;split at hc
   .rename_i i rs hi hr;split at hc
    .rename_i hall;simp only[ZD,decide_eq_true_eq] at hall;obtain⟨hz,hlim,hn,hl⟩:=hall;obtain⟨z,hz⟩:=XQ.1 hz;obtain⟨h3,h4⟩:=vk hr;split at hc
     .cases hc
      cases dr with
      |true=>exact h.elim
      |false=>
       have h:Jb i.size (evs s.ev rs) s (λr s'=>K (s'.put o.dst r)):=h;rw[DV] at h;refine Fq ho ht hi hz rfl hlim hn h3 (ZO hl) (λi h h'=>?_) h;obtain⟨h5,h6⟩:=h4 i h h';exact⟨by omega,h6⟩
     .cases hc;refine zg ho ht hi hz rfl hlim hn h3 (ZO hl) (λi h h'=>?_) h;obtain⟨h5,h6⟩:=h4 i h h';exact⟨by omega,h6⟩
    .cases hc
   .cases hc
  .cases hc
 .rename_i t x ho;split at hc
  .rename_i agg n x' h1 h2 h3;split at hc
   .cases hc;exact EU ho h3 h1 (λ_=>h2) h
   .split at hc
    .cases hc;exact ir ho h3 h1 (λ_=>h2) (ae.1 h).2
    .cases hc
     cases dr with
     |true=>exact ir ho h3 h1 (λ_=>h2) h
     |false=>exact AD ho h3 h1 (λ_=>h2) h
  .cases hc
 .rename_i t p x ho;split at hc
  .rename_i n p' x' h1 h2 h3 h4;split at hc
   .cases hc
    cases dr with
    |true=>
     have h:vT 1 n s (s.ev p') (s.ev x') K:=h;unfold vT at h;split at h
     .rename_i b off hpe;have h5:=(ae.1 h).2;rw[<-hpe] at h5;exact iM ho h4 h2 h3 h1 h5
     .exact h.elim
    |false=>exact h.elim
   .cases hc
    cases dr with
    |true=>exact iM ho h4 h2 h3 h1 h
    |false=>exact yk ho h4 h2 h3 h1 h
  .cases hc
 .rename_i x ho
  cases hx:opd x with
  |none=>rw[hx] at hc;cases hc
  |some r=>rw[hx] at hc;cases hc;exact Aj ho hx h
 .rename_i op t x y u ho;split at hc
  .rename_i x' y' h1 h2;unfold Lc at hc;split at hc
   .cases hk:xQ P t with
    |none=>rw[hk] at hc;cases hc
    |some ks=>rw[hk] at hc;cases hc;exact xT (neg:=false) ho h1 h2 hk h
   .cases hk:xQ P t with
    |none=>rw[hk] at hc;cases hc
    |some ks=>rw[hk] at hc;cases hc;exact xT (neg:=true) ho h1 h2 hk h
   .rename_i ht;split at hc
    .cases hc
     cases dr with
     |true=>exact h.elim
     |false=>
      have h:rN (.Cv false) [s.ev x'] s o.dst K:=h;cases hxe:s.ev x'<;>rw[hxe] at h<;>first|exact h.elim|exact tX (neg:=false) ho h1 (Ag h2) ht hxe h
    .cases hc
   .rename_i ht;split at hc
    .cases hc
     cases dr with
     |true=>exact h.elim
     |false=>
      have h:rN (.Cv true) [s.ev x'] s o.dst K:=h;cases hxe:s.ev x'<;>rw[hxe] at h<;>first|exact h.elim|exact tX (neg:=true) ho h1 (Ag h2) ht hxe h
    .cases hc
   .rename_i ht;cases hc;exact xS (neg:=false) ho h1 h2 ht h
   .rename_i ht;cases hc;exact xS (neg:=true) ho h1 h2 ht h
   .rename_i ht;cases hc;exact xR (neg:=false) ho h1 h2 ht h
   .rename_i ht;cases hc;exact xR (neg:=true) ho h1 h2 ht h
   .cases hc;exact C4 ho h1 h2 h
  .cases hc
 .rename_i op t x ho
  cases hx:opd x with
  |none=>rw[hx] at hc;cases hc
  |some r=>rw[hx] at hc;cases hc;exact FZ ho hx h
 .rename_i t u x ho;split at hc
  .rename_i k x' h1 h2 h3;cases hc;exact u9 (k:=some _) ho h3 h1 h2 h
  .rename_i e x' h1 h2 h3;split at hc
   .rename_i h4;cases hc;exact Fp ho h3 h1 h4 h2 h
   .cases hc
  .rename_i x' _ h1 h2 h3;cases hc;exact u9 (k:=none) ho h3 h1 h2 h
  .cases hc
 .rename_i f xs ys ho;split at hc
  .rename_i xs' ys' h1 h2;cases hc;exact Cx ho h1 h2 h
  .cases hc
 .rename_i t l c ho;split at hc
  .rename_i e ht;split at hc
   .rename_i i l' c' hi h1 h2;split at hc
    .rename_i z hz;split at hc
     .rename_i x hx;split at hc
      .rename_i hall;simp only[ZD] at hall;obtain⟨⟨h3,h4,h5,h6⟩,h7⟩:=hall;obtain⟨d,hd⟩:=XQ.1 h7;split at hc
       .cases hc
        cases dr with
        |true=>exact h.elim
        |false=>exact EM ho ht hi hz rfl (ZO h3) (Zr h4) hx h5 h6 h1 h2 h
       .cases hc;exact GU ho hd ht hi hz rfl (ZO h3) (Zr h4) hx h5 h6 h1 h2 h
      .cases hc
     .cases hc
    .cases hc
   .cases hc
  .cases hc
 .rename_i t x f ho;split at hc
  .rename_i fs x' ht hx;split at hc
   .rename_i fd hf;split at hc
    .rename_i k hk;cases hc;exact CT ho hx ht hf hk (by omega) h
    .cases hc
   .cases hc
  .cases hc
 .rename_i t x f ho;split at hc
  .rename_i fs x' ht hx;split at hc
   .rename_i fd hf;split at hc
    .rename_i agg n h1 h2;cases hc;exact E4 ho hx ht hf h1 (λ_=>h2) h
    .cases hc
   .cases hc
  .cases hc
 .rename_i t x i ho;split at hc
  .rename_i e x' i' ht hx hi;split at hc
   .rename_i sz hsz;cases hc;exact EY ho hx hi ht hsz h
   .cases hc
  .rename_i len e x' i' ht hx hi;split at hc
   .rename_i sz hsz;cases hc;exact CO ho hx hi ht hsz h
   .cases hc
  .cases hc
 .rename_i t x i ho;split at hc
  .rename_i x' i' ht hx hi;cases hc;exact CN ho hx hi ht h
  .rename_i len e x' i' ht hx hi;split at hc
   .rename_i sz agg hsz ha;split at hc
    .rename_i hall;cases hc;exact CM ho hx hi ht hsz ha (λe=>by rw[e] at hall;simpa using hall) h
    .cases hc
   .cases hc
  .cases hc
 .rename_i t x lo hi mx ho;split at hc
  .rename_i e x' lo' hi' mx' ht hx hlo hhi hmx;split at hc
   .rename_i sz hsz;split at hc
    .unfold Lb at hc;split at hc
     .rename_i h';cases hc;have e1:lo=none:=xi hlo;have e2:mx=none:=xi hmx;obtain⟨xh,e3,e4⟩:=EI hhi;subst e1 e2 e3
      cases dr with
      |true=>exact h.elim
      |false=>
       have h:B7 (s.ev x') (s.ev h') s o.dst K:=h;unfold B7 at h;split at h
       .rename_i ki n hxe hhe;obtain⟨h0,hK⟩:=h;subst h0;exact EA ho hx e4 ht hsz hxe hhe hK
       .exact h.elim
     .cases hc
    .split at hc
     .rename_i hall;cases hc;exact Ey ho hx hlo hhi hmx ht hsz (λe=>by rw[e] at hall;simpa using hall) h
     .cases hc
   .cases hc
  .rename_i x' lo' hi' mx' ht hx hlo hhi hmx;split at hc
   .cases hc;exact B5 ho hx hlo hhi ht h
   .cases hc
  .cases hc
 .rename_i x i ho
  cases hx:opd x with
  |none=>rw[hx] at hc;cases hc
  |some r=>rw[hx] at hc;cases hc;exact E6 ho hx h
 .rename_i x t ho;split at hc
  .rename_i x' ht hx;cases hc;exact xC ho hx (.inl ⟨rfl,ht⟩) h
  .rename_i e x' ht hx;cases hc;exact xC ho hx (.inr ⟨rfl,e,ht⟩) h
  .cases hc
 .rename_i x t ho;split at hc
  .rename_i e x' ht hx;cases hc;exact Fo ho hx ht h
  .cases hc
 .rename_i t r ho;split at hc
  .rename_i kt et r' ht hr;cases hc
   cases dr with
   |true=>exact h.elim
   |false=>
    refine wA ho hr ht ?_
    cases r' with
    |none=>exact⟨trivial,h⟩
    |some q=>
     have h:rN .mkM [s.ev q] s o.dst K:=h;cases hqe:s.ev q<;>rw[hqe] at h<;>first|exact h.elim|skip
     simp only[ZM,hqe];exact⟨trivial,h⟩
  .cases hc
 .rename_i t m k v ho;split at hc
  .rename_i kt et m' k' v' ht hm hk hv hdn;split at hc
   .rename_i ik hkt;cases hc
    cases dr with
    |true=>exact h.elim
    |false=>exact sS ho hdn hm hk hv ht hkt h
   .rename_i fs hkt
    cases hks:xQ P kt with
    |none=>rw[hks] at hc;cases hc
    |some ks=>
     rw[hks] at hc;cases hc
     cases dr with
     |true=>exact h.elim
     |false=>exact N8 ho hdn hm hk hv ht hks h
   .cases hc
  .cases hc
 .rename_i t m k ho;split at hc
  .rename_i kt et m' k' ht hm hk;split at hc
   .rename_i ik i hkt hi;split at hc
    .rename_i z hz
     cases hx:dF z with
     |none=>rw[hx] at hc;cases hc
     |some zx=>
      rw[hx] at hc;cases hc
      cases dr with
      |true=>exact h.elim
      |false=>exact CW ho hm hk ht hkt hi hz hx h
    .cases hc
   .cases hc
  .cases hc
 .rename_i t m j v ho;split at hc
  .rename_i m' j' v' hm hj hv hdn;cases hc
   cases dr with
   |true=>exact h.elim
   |false=>exact B3 ho hdn hm hj hv h
  .cases hc
 .rename_i t m k ok ho;split at hc
  .rename_i kt et m' k' ht hm hk;split at hc
   .rename_i ik i hkt hi;split at hc
    .rename_i z hz
     cases hx:dF z with
     |none=>rw[hx] at hc;cases hc
     |some zx=>
      rw[hx] at hc;cases hc
      cases dr with
      |true=>exact h.elim
      |false=>exact yV ho hm hk ht hkt hi hz hx h
    .cases hc
   .rename_i fs i hkt hi;split at hc
    .rename_i z ks hz hks
     cases hx:dF z with
     |none=>rw[hx] at hc;cases hc
     |some zx=>
      rw[hx] at hc;cases hc
      cases dr with
      |true=>exact h.elim
      |false=>exact Oe ho hm hk ht hks hi hz hx h
    .cases hc
   .cases hc
  .cases hc
 .rename_i x y t u ho;split at hc
  .unfold JI at hc;split at hc
   .rename_i e x' y' ht hx hy;split at hc
    .rename_i i hi;split at hc
     .rename_i z hz;split at hc
      .rename_i zx hzx;split at hc
       .rename_i _ hall htu;cases hc;have htu:=ZO htu;subst htu;simp only[ZD] at hall;obtain⟨h3,h4,h5,h6⟩:=hall
        cases dr with
        |true=>exact h.elim
        |false=>exact C9 ho ht hi hz rfl (ZO h3) (Zr h4) hzx h5 hx hy h
       .rename_i ik hall _ hu;cases hc;simp only[ZD] at hall;obtain⟨h3,h4,h5,h6⟩:=hall
        cases dr with
        |true=>exact h.elim
        |false=>exact C8 ho ht hu hi hz rfl (ZO h3) (Zr h4) hzx h5 h6 hx hy h
       .cases hc
      .cases hc
     .cases hc
    .cases hc
   .cases hc
  .split at hc
   .rename_i e x' y' htu ht hx hy;have htu:=ZO htu;subst htu;split at hc
    .rename_i i hi;split at hc
     .rename_i z hz;split at hc
      .rename_i hall;cases hc;simp only[ZD] at hall;obtain⟨h3,h4,h5⟩:=hall;obtain⟨d,hd⟩:=XQ.1 h5;exact zm ho hd ⟨ht,i,z,hi,hz,rfl,ZO h3,Zr h4⟩ hx hy h
      .cases hc
     .cases hc
    .cases hc
   .cases hc
 .rename_i x y ts ho;split at hc
  .rename_i x' y' hx hy;cases hc;exact Aq (mx:=true) ho hx hy h
  .cases hc
 .rename_i x y ts ho;split at hc
  .rename_i x' y' hx hy;cases hc;exact Aq (mx:=false) ho hx hy h
  .cases hc
 .rename_i f args ts ho;split at hc
  .rename_i k xs ys rs hf hr;split at hc
   .rename_i hb;cases hc;refine vf ho hf hr (λf' xs' ys' e=>by cases e;exact hb) ?_
    cases dr with
    |true=>exact Fun.sem h
    |false=>exact h
   .cases hc
  .rename_i t rs hf hr;cases hc;refine vf ho hf hr (λf' xs' ys' e=>by have:=h.1;rw[e] at this;exact this) ?_
   have h2:=h.2
   cases dr with
   |true=>exact Fun.sem h2
   |false=>exact h2
  .cases hc
 .cases hc
end Go.AM
namespace Go.AM
open Go.CK Go.RowKit
structure ROp where
 dst:Option Nat
 guard:Option (Nat×Bool)
 rx:RX
deriving Inhabited
def gv(want:Bool):AV->Option Bool
 |.bool b=>some b
 |.tup []=>some (!want)
 |_=>none
def ROp.run(P:Program)(dr:Bool)(r:ROp)(s:St)(K:St->Prop):Prop:=
 match r.guard with
 |none=>r.rx.run P dr s r.dst K
 |some (g,want)=>match gv want (s.ev (.t g)) with
  |some b=>(b=want->r.rx.run P dr s r.dst K)/\(b≠want->K (s.put r.dst (.tup [])))
  |none=>False
def tN(P:Program)(dr:Bool):List ROp->St->(St->Prop)->Prop
 |[],s,K=>K s
 |r::rs,s,K=>r.run P dr s λs'=>tN P dr rs s' K
def cOp(P:Program)(nt:Nat)(tk:Nat->Nat->Bool)(ops:Array Oper)(o:Oper):Option ROp:=
 match cRX P tk o with
 |some rx=>match o.dst with
  |some d=>if Nat.blt d nt then (match o.guard with
   |none=>some ⟨some d,none,rx⟩
   |some (j,want)=>match (ops[j]?).bind (·.dst) with
    |some g=>some ⟨some d,some (g,want),rx⟩
    |none=>none) else none
  |none=>match o.guard with
   |none=>some ⟨none,none,rx⟩
   |some (j,want)=>match (ops[j]?).bind (·.dst) with
    |some g=>some ⟨none,some (g,want),rx⟩
    |none=>none
 |none=>none
def pr(P:Program)(nt:Nat)(tk:Nat->Nat->Bool)(ops:Array Oper):List Oper->Option (List ROp)
 |[]=>some []
 |o::os=>match cOp P nt tk ops o,pr P nt tk ops os with
  |some r,some rs=>some (r::rs)
  |_,_=>none
structure OpC(P:Program)(nt:Nat)(ops:Array Oper)(o:Oper)(r:ROp):Prop where
 rx:∃tk,cRX P tk o=some r.rx
 dst:o.dst=r.dst
 lt:∀d,o.dst=some d->d<nt
 guard:(o.guard=none/\r.guard=none)\/∃j want g,o.guard=some (j,want)/\(ops[j]?).bind (·.dst)=some g/\r.guard=some (g,want)
theorem HH{P:Program}{nt:Nat}{tk:Nat->Nat->Bool}{ops:Array Oper}{o:Oper}{r:ROp}(h:cOp P nt tk ops o=some r):OpC P nt ops o r:=by
 unfold cOp at h;split at h
 .rename_i rx hrx;split at h
  .rename_i d hd;split at h
   .rename_i hlt;split at h
    .rename_i hg;cases h;exact⟨⟨tk,hrx⟩,hd,λd' e=>by rw[hd] at e;cases e;simpa using hlt,.inl ⟨hg,rfl⟩⟩
    .rename_i j want hg;split at h
     .rename_i g hj;cases h;exact⟨⟨tk,hrx⟩,hd,λd' e=>by rw[hd] at e;cases e;simpa using hlt,.inr ⟨j,want,g,hg,hj,rfl⟩⟩
     .cases h
   .cases h
  .rename_i hd;split at h
   .rename_i hg;cases h;exact⟨⟨tk,hrx⟩,hd,(λd' e=>by rw[hd] at e;cases e),.inl ⟨hg,rfl⟩⟩
   .rename_i j want hg;split at h
    .rename_i g hj;cases h;exact⟨⟨tk,hrx⟩,hd,(λd' e=>by rw[hd] at e;cases e),.inr ⟨j,want,g,hg,hj,rfl⟩⟩
    .cases h
 .cases h
theorem fc{P:Program}{nt:Nat}{tk:Nat->Nat->Bool}{ops:Array Oper}:∀{os:List Oper} {rs:List ROp},pr P nt tk ops os=some rs->os.length=rs.length/\∀(i:Nat) (o:Oper),os[i]? =some o->∃r,rs[i]? =some r/\OpC P nt ops o r
 |[],rs,h=>by cases h;exact⟨rfl,λi o h=>by simp at h⟩
 |o::os,rs,h=>by
  simp only[pr] at h;split at h
  .rename_i r rs' h1 h2;cases h;obtain⟨h3,h4⟩:=fc h2;refine⟨by simp[h3],λi o' ho=>?_⟩
   cases i with
   |zero=>simp at ho;subst ho;exact⟨r,rfl,HH h1⟩
   |succ i=>simp at ho;simpa using h4 i o' ho
  .cases h
section
variable{P:Program}{nt:Nat}{fl:Bool}{ops:Array Oper}{E:Entry}{G:Gh}{s:St}{a:Act}{w:World}{rd:Option Nat}{n:Nat}
theorem ft{o:Oper}{r:ROp}(hc:OpC P nt ops o r){i:Nat}(hi:ops[i]? =some o){dr:Bool}{K:St->Prop}(h:r.run P dr s K)(hs:RS E G s a w)(hnt:E.nt=nt){next:Act->World->Prop}{Q:Exit->Act->World->Prop}
  (hnext:∀s' G' a' w',K s'->RS E G' s' a' w'->a'.defers=a.defers->next a' w'):wpOpIn (F0 rd) n P ops Q i next a w:=by
 have hlt:∀d,o.dst=some d->d<E.nt:=λd hd=>by rw[hnt];exact hc.lt d hd
 unfold wpOpIn;rw[hi];simp only;obtain⟨tk,hrx⟩:=hc.rx;unfold ROp.run at h;rcases hc.guard with ⟨g1,g2⟩|⟨j,want,g,g1,g2,g3⟩
 .rw [g2] at h;simp only at h;have hw:Region.wanted o (yielded ops a.tmps)=true:=by simp[Region.wanted,g1]
  rw[if_pos hw];rw[<-hc.dst] at h;exact xX hrx h E G a w rd n next Q hs hlt hnext
 .rw [g3] at h;simp only at h;split at h
  .rename_i b hgv;have hv:=hs.ev (o:=.tmp g) (r:=.t g) rfl
   have hwant:Region.wanted o (yielded ops a.tmps)=decide (b=want):=by
    have hyv:∀q:Option Bool,(match a.eval (.tmp g) with|.bool b=>some b|_=>none)=q->yielded ops a.tmps j=q:=λq hq=>by
     unfold yielded;rw[g2];simp only[YE];simp only[Act.eval] at hq
     cases hx:a.tmps[g]? with
     |none=>
      simp[hx] at hq;subst hq
      rfl
     |some u=>
      simp[hx] at hq;cases u<;>exact hq
    generalize s.ev (.t g)=x at hgv hv
    cases x with
    |bool c=>
     have hc2:c=b:=by simpa[gv] using hgv
     have hy:=hyv (some c) (by rw[hv.cB])
     rw[Bool.eq_iff_iff]
     simp[Region.wanted,g1,hy,hc2]
    |tup vs=>
     cases vs with
     |nil=>
      have hc2:(!want)=b:=by simpa[gv] using hgv
      obtain⟨us,e2,hl,_⟩:=hv.s8;have:us=[]:=YW.1 (by simpa using hl)
      subst this;have hy:=hyv none (by rw[e2])
      rw[<-hc2]
      cases want<;>simp[Region.wanted,g1,hy]
     |cons y ys=>simp[gv] at hgv
    |_=>simp[gv] at hgv
   by_cases hbw:b=want
   .have hw:Region.wanted o (yielded ops a.tmps)=true:=by rw[hwant];simp[hbw]
    rw[if_pos hw];have h1:=h.1 hbw;rw[<-hc.dst] at h1;exact xX hrx h1 E G a w rd n next Q hs hlt hnext
   .have hw:Region.wanted o (yielded ops a.tmps)=false:=by rw[hwant];simp[hbw]
    rw[hw];simp only[YZ,if_false];have h1:=h.2 hbw;rw[<-hc.dst] at h1;exact⟨λ_ _=>trivial,hnext _ G _ w h1 (hs.J5 hlt (.tup [] [] rfl λj hj=>by cases hj)) (put_defers _ _ _)⟩
  .exact h.elim
theorem wV{dr:Bool}{Q:Exit->Act->World->Prop}{K:St->Prop}:∀{os:List Oper} {rs:List ROp} {k:Nat} {s:St} {G:Gh} {a:Act} {w:World},os.length=rs.length->(∀(i:Nat) (o:Oper),os[i]? =some o->∃r,rs[i]? =some r/\OpC P nt ops o r)->(∀(i:Nat) (o:Oper),os[i]? =some o->ops[k+i]? =some o)->
  tN P dr rs s K->RS E G s a w->E.nt=nt->(∀s' G' a' w',K s'->RS E G' s' a' w'->a'.defers=a.defers->Q .normal a' w')->wpOpsIn (F0 rd) n P ops Q (List.range' k os.length) a w
 |[],[],_,_,_,_,_,_,_,_,h,hs,_,hQ=>hQ _ _ _ _ h hs rfl
 |o::os,r::rs,k,s,G,a,w,hl,hc,hi,h,hs,hnt,hQ=>by
  simp only[ZX,Xe];rw[wpOpsIn_cons];obtain⟨r',hr,hoc⟩:=hc 0 o rfl;simp at hr;subst hr;refine ft hoc (by simpa using hi 0 o rfl) h hs hnt λs' G' a' w' hK hs' hd=>?_
  exact wV (by simpa using hl) (λi o' ho=>hc (i+1) o' (by simpa using ho)) (λi o' ho=>by
   have:=hi (i+1) o' (by simpa using ho)
   rw[show k+1+i=k+(i+1) by omega];exact this) hK hs' hnt λs2 G2 a2 w2 h2 h3 h4=>hQ s2 G2 a2 w2 h2 h3 (h4.trans hd)
 |[],_::_,_,_,_,_,_,hl,_,_,_,_,_,_=>by simp at hl
 |_::_,[],_,_,_,_,_,hl,_,_,_,_,_,_=>by simp at hl
theorem WP.region{id:Nat}{rs:List ROp}{tk:Nat->Nat->Bool}(hc:pr P nt tk ops ops.toList=some rs){Q:AX->St->Prop}(h:tN P false rs s (Q .normal)):WP P nt fl (.region id ops false) s Q:=λE G a w rd n hs he=>by
 obtain⟨h1,h2⟩:=fc hc;refine wpIn_region ?_;have:=wV (E:=E) (rd:=rd) (n:=n) (Q:=λe a' w'=>∃x s' G',e=x.up/\Q x s'/\RS E G' s' a' w') (k:=0) h1 h2 (λi o ho=>by simpa using ho) h hs he.1 (λs' G' a' w' hK hs' _=>⟨.normal,s',G',rfl,hK,hs'⟩)
 rw[List.range_eq_range'];simpa using this
end
end Go.AM
