/-
  Texts of this aQ joined (wip/gen/bundle.py),those declarations only that are needed:AmP. By an AI agent.
-/
import Derived.Test.YtahnpgfkkngimaaGreatBao
set_option linter.unusedSimpArgs false
set_option linter.unusedVariables false
namespace Go.AM
open Go.CK Go.RowKit
structure aq(b:Bool)(A B:Prop):Prop where
 t:b=true->A
 f:b=false->B
theorem aq.yes{b:Bool}{A B:Prop}(h:b=true)(k:A):aq b A B:=⟨λ_=>k,λe=>absurd (h.symm.trans e) (by decide)⟩
theorem aq.no{b:Bool}{A B:Prop}(h:b=false)(k:B):aq b A B:=⟨λe=>absurd (h.symm.trans e) (by decide),λ_=>k⟩
theorem aq.not{b:Bool}{A B:Prop}(k:aq b B A):aq (!b) A B:=⟨λe=>k.f (by simpa using e),λe=>k.t (by simpa using e)⟩
theorem aq.is{p:Prop}[Decidable p]{A B:Prop}(h:p)(k:A):aq (decide p) A B:=.yes (decide_eq_true h) k
theorem aq.K6{p:Prop}[Decidable p]{A B:Prop}(h:¬p)(k:B):aq (decide p) A B:=.no (decide_eq_false h) k
theorem aq.dec{p:Prop}[Decidable p]{A B:Prop}(h:p->A)(k:¬p->B):aq (decide p) A B:=⟨λe=>h (of_decide_eq_true e),λe=>k (of_decide_eq_false e)⟩
theorem aq.lt{x y:Int}{A B:Prop}(h:x<y->A)(k:y<=x->B):aq (decide (x<y)) A B:=.dec h λe=>k (by omega)
theorem aq.le{x y:Int}{A B:Prop}(h:x<=y->A)(k:y<x->B):aq (decide (x<=y)) A B:=.dec h λe=>k (by omega)
theorem aq.any{b:Bool}{A B:Prop}(h:b=true->A)(k:b=false->B):aq b A B:=⟨h,k⟩
theorem aq.or{b c:Bool}{A B:Prop}(h:aq b A (aq c A B)):aq (b||c) A B:=by
 cases b
 .exact h.f rfl
 .exact .yes rfl (h.t rfl)
structure cG(p K:Prop):Prop where
 p:p
 k:K
structure Szs(z:Nat)(l:List AV):Prop where
 out:∀y∈l,y.cells.length=z
theorem Szs.nil{z:Nat}:Szs z []:=⟨λ_ h=>by cases h⟩
theorem Szs.cons{z:Nat}{x:AV}{l:List AV}(h:x.cells.length=z)(k:Szs z l):Szs z (x::l):=⟨λy hy=>by rcases ZI.1 hy with rfl|hy;exact h;exact k.out y hy⟩
theorem Szs.app{z:Nat}{l m:List AV}(h:Szs z l)(k:Szs z m):Szs z (l++m):=⟨λy hy=>by rcases ZY.1 hy with hy|hy;exact h.out y hy;exact k.out y hy⟩
theorem Szs.map{α:Type}{z:Nat}{f:α->AV}{l:List α}(h:∀x,(f x).cells.length=z):Szs z (l.map f):=⟨λy hy=>by obtain⟨x,_,rfl⟩:=Zk.1 hy;exact h x⟩
theorem Szs.take{z:Nat}{l:List AV}(h:Szs z l)(n:Nat):Szs z (l.take n):=⟨λy hy=>h.out y (List.mem_of_mem_take hy)⟩
theorem Szs.drop{z:Nat}{l:List AV}(h:Szs z l)(n:Nat):Szs z (l.drop n):=⟨λy hy=>h.out y (List.mem_of_mem_drop hy)⟩
theorem Szs.rep{z n:Nat}{x:AV}(h:x.cells.length=z):Szs z (List.replicate n x):=⟨λy hy=>by rw[(Ya.1 hy).2];exact h⟩
theorem Szs.set{z:Nat}{l:List AV}(h:Szs z l){x:AV}(hx:x.cells.length=z)(i:Nat):Szs z (l.set i x):=⟨λy hy=>by rcases List.mem_or_eq_of_mem_set hy with hy|rfl;exact h.out y hy;exact hx⟩
structure eL(sz:Nat)(l:List AV)(n:Int)(K:AV->Prop):Prop where
 out:∃y,(0<=n/\l[n.toNat]? =some y/\y.cells.length=sz)/\K y
theorem eL.of{sz:Nat}{l:List AV}{n:Int}{K:AV->Prop}{y:AV}(h0:0<=n)(h:l[n.toNat]? =some y)(hs:y.cells.length=sz)(k:K y):eL sz l n K:=⟨y,⟨h0,h,hs⟩,k⟩
theorem eL.known{α:Type}{f:α->AV}{sz:Nat}{l:List α}{n:Int}{K:AV->Prop}{x:α}(h:l[n.toNat]? =some x)(h0:0<=n)(hs:∀x,(f x).cells.length=sz)(k:K (f x)):eL sz (l.map f) n K:=
 ⟨f x,⟨h0,by rw[YD,h];rfl,hs x⟩,k⟩
theorem eL.map{α:Type}{f:α->AV}{sz:Nat}{l:List α}{n:Int}{K:AV->Prop}(h0:0<=n)(h1:n<l.length)(hs:∀x,(f x).cells.length=sz)(k:∀x,l[n.toNat]? =some x->K (f x)):eL sz (l.map f) n K:=
 have hx:l[n.toNat]? =some (l[n.toNat]'(by omega)):=ZA (by omega)
 .known hx h0 hs (k _ hx)
theorem eL.Ko{α:Type}{f:α->AV}{sz:Nat}{l:List α}{n:Nat}{K:AV->Prop}{x:α}(h:l[n]? =some x)(hs:∀x,(f x).cells.length=sz)(k:K (f x)):eL sz (l.map f) (n:Int) K:=.known (by simpa using h) (by omega) hs k
theorem eL.K3{α:Type}{f:α->AV}{sz:Nat}{l:List α}{n:Nat}{K:AV->Prop}(h1:n<l.length)(hs:∀x,(f x).cells.length=sz)(k:∀x,l[n]? =some x->K (f x)):eL sz (l.map f) (n:Int) K:=.map (by omega) (by omega) hs λx hx=>k x (by simpa using hx)
structure Ei(b:ByteArray)(n:Int)(K:Int->Prop):Prop where
 out:∃y,(0<=n/\b[n.toNat]? =some y)/\K y.toNat
structure nP(k:IntKind)(n:Int)(K:Int->Prop):Prop where
 out:K (k.wrap n)
theorem nP.i64{n:Int}{K:Int->Prop}(h:-9223372036854775808<=n/\n<=9223372036854775807)(k:K n):nP .i64 n K:=⟨by rw[IntWalk.i64_in n ⟨h.1,h.2⟩];exact k⟩
structure sX(l:List AV)(K:Int->Prop):Prop where
 out:K l.length
theorem sX.map{α:Type}{f:α->AV}{l:List α}{K:Int->Prop}(h:K l.length):sX (l.map f) K:=⟨by rw[ZF];exact h⟩
theorem sX.app{l m:List AV}{K:Int->Prop}(h:sX l λa=>sX m λb=>K (a+b)):sX (l++m) K:=⟨by have:=h.out.out;rw[ZC,Int.natCast_add];exact this⟩
theorem sX.one{x:AV}{K:Int->Prop}(h:K 1):sX [x] K:=⟨h⟩
def KH(op:BinOp)(a b:AV)(K:AV->Prop):Prop:=
 match a,b with
 |.int k x,.int k' y=>req (decide (k=k')) (match op with
  |.add=>nP k (x+y) λn=>K (.int k n)
  |.sub=>nP k (x-y) λn=>K (.int k n)
  |.mul=>nP k (x*y) λn=>K (.int k n)
  |.quo=>cG (y≠0) (nP k (x.tdiv y) λn=>K (.int k n))
  |.rem=>cG (y≠0) (K (.int k (x.tmod y)))
  |.eql=>K (.bool (decide (x=y)))
  |.neq=>K (.bool (!decide (x=y)))
  |.lss=>K (.bool (decide (x<y)))
  |.leq=>K (.bool (decide (x<=y)))
  |.gtr=>K (.bool (decide (y<x)))
  |.geq=>K (.bool (decide (y<=x)))
  |_=>False)
 |.str x,.str y=>match op with
  |.add=>cG (x.size+y.size<=lim) (K (.str (x++y)))
  |.eql=>K (.bool (decide (x=y)))
  |.neq=>K (.bool (!decide (x=y)))
  |op=>zj op (.str x) (.str y) K
 |a,b=>zj op a b K
theorem KG{op:BinOp}{a b:AV}{K:AV->Prop}(h:KH op a b K):zj op a b K:=by
 unfold KH at h;split at h
 .unfold zj;obtain⟨h1,h2⟩:=ae.1 h;refine ae.2 ⟨h1,?_⟩;cases op<;>first|exact h2|exact h2.out|exact⟨h2.p,h2.k.out⟩|exact⟨h2.p,h2.k⟩
 .split at h
  .exact ⟨h.p,h.k⟩
  .exact h
  .exact h
  .exact h
 .exact h
def JT(sz:Nat)(x:AV)(lo hi mx:Option AV)(K:AV->Prop):Prop:=
 match x with
 |.sl _ l=>bnd lo 0 λa=>bnd hi l.length λb=>match mx with
  |none=>cG (Szs sz l) (cG (0<=a/\a<=b/\b<=l.length) (K (.sl .no ((l.take b.toNat).drop a.toNat))))
  |some _=>bnd mx 0 λm=>cG (Szs sz l) (cG (0<=a/\a<=b/\b=m/\m<=l.length) (K (.sl .full ((l.take b.toNat).drop a.toNat))))
 |.bsl b m k=>bnd lo 0 λa=>bnd hi m λc=>match mx with
  |none=>cG (a=0/\0<=c/\c<=k/\c<=4294967296) (K (.bsl b c.toNat k))
  |some _=>bnd mx 0 λq=>cG (a=0/\0<=c/\c<=q/\q<=k/\c<=4294967296) (K (.bsl b c.toNat q.toNat))
 |_=>False
theorem JS{sz:Nat}{x:AV}{lo hi mx:Option AV}{K:AV->Prop}(h:JT sz x lo hi mx K):B6 sz x lo hi mx K:=by
 unfold JT at h;unfold B6;split at h
 .refine bT (λa ha=>bT (λb hb=>?_) ha) h;split at hb
  .exact ⟨⟨hb.p.out,hb.k.p⟩,hb.k.k⟩
  .exact bT (λm hm=>⟨⟨hm.p.out,hm.k.p⟩,hm.k.k⟩) hb
 .refine bT (λa ha=>bT (λb hb=>?_) ha) h;split at hb
  .exact ⟨hb.p,hb.k⟩
  .exact bT (λm hm=>⟨hm.p,hm.k⟩) hb
 .exact h.elim
def GS(g:mI)(vals:List AV)(K:AV->Prop):Prop:=
 match g,vals with
 |.cap,[.sl .full l]=>sX l λn=>K (.int .i64 n)
 |g,vals=>match g.val vals with
  |some (.ok r)=>K r
  |some (.need p r)=>cG p (K r)
  |none=>False
theorem DF{g:mI}{vals:List AV}{K:AV->Prop}(h:GS g vals K):dA g vals K:=by
 unfold GS at h;unfold dA;split at h
 .exact h.out
 .split at h
  .rename_i r hg;simp only[hg];exact h
  .rename_i p r hg;simp only[hg];exact⟨h.p,h.k⟩
  .exact h.elim
def RX.pP(rx:RX)(ev:Opd->AV)(rd:AV->Option (List AV))(K:AV->Prop):Prop:=
 match rx with
 |.pick c a b=>match ev c with
  |.bool t=>aq t (K (ev a)) (K (ev b))
  |_=>False
 |.idx sz x i=>match ev x,ev i with
  |.sl _ l,.int _ n=>eL sz l n λy=>K (.ept y.cells)
  |.bsl b m _,.int _ n=>cG (0<=n/\n<m) (K (.elp b n.toNat sz 0))
  |_,_=>False
 |.pg x i=>match ev x,ev i with
  |.str b,.int _ n=>Ei b n λy=>K (.int .u8 y)
  |_,_=>False
 |.len str o=>match str,ev o with
  |false,.sl _ l=>sX l λn=>K (.int .i64 n)
  |false,.bsl _ m _=>K (.int .i64 m)
  |true,.str b=>K (.int .i64 b.size)
  |_,_=>False
 |.un op o=>match op,ev o with
  |.neg,.int k n=>nP k (0-n) λn=>K (.int k n)
  |.not,.bool b=>K (.bool (!b))
  |_,_=>False
 |.conv k o=>match k,ev o with
  |some k,.int _ n=>nP k n λn=>K (.int k n)
  |none,.str b=>K (.str b)
  |_,_=>False
 |.bin op x y=>KH op (ev x) (ev y) K
 |.mk sz z l c=>match ev l,ev c with
  |.int _ n,.int _ m=>cG (0<=n/\n<=m/\m<=4294967296) (K (.sl (.own sz) (List.replicate n.toNat z)))
  |_,_=>False
 |.c6 mx x y=>match ev x,ev y with
  |.int k a,.int k' b=>req (decide (k=k')) (match mx with
   |true=>K (.int k (max a b))
   |false=>K (.int k (min a b)))
  |_,_=>False
 |.ql ln sz x i=>match ev i with
  |.int _ n=>req (AO (ev x)) (cG (0<=n/\n<(ln:Int)) (K (s7 (n.toNat*sz) (ev x))))
  |_=>False
 |.slc sz x lo hi mx=>JT sz (ev x) (lo.map ev) (hi.map ev) (mx.map ev) K
 |.more g args=>GS g (evs ev args) K
 |.aG sz rs=>dJ ev sz rs λl=>fvs l λl=>K (.sl .full l)
 |rx=>rx.pK ev rd K
theorem RX.sJ{rx:RX}{ev:Opd->AV}{rd:AV->Option (List AV)}{K:AV->Prop}(h:rx.pP ev rd K):rx.pK ev rd K:=by
 cases rx<;>try exact h
 .simp only[RX.pP,RX.pK,mmK] at h|-;split at h
  .rename_i mx _ _ _ _ _ _ _ _ h1 h2;rw[h1,h2];simp only;obtain⟨h3,h4⟩:=ae.1 h;refine ae.2 ⟨h3,?_⟩;cases mx<;>exact h4
  .exact h.elim
 .simp only[RX.pP,RX.pK,xJ] at h|-;split at h
  .rename_i h1;rw[h1];simp only;obtain⟨h3,h4⟩:=ae.1 h;exact ae.2 ⟨h3,h4.p,h4.k⟩
  .exact h.elim
 .exact JS h
 .simp only[RX.pP,RX.pK,xe] at h|-;split at h
  .rename_i h1;rw[h1];exact⟨h.t,h.f⟩
  .exact h.elim
 .simp only[RX.pP,RX.pK,E0] at h|-;split at h
  .rename_i h1 h2;rw[h1,h2];exact h.out
  .rename_i h1 h2;rw[h1,h2];exact⟨h.p,h.k⟩
  .exact h.elim
 .simp only[RX.pP,RX.pK,xI] at h|-;split at h
  .rename_i h1 h2;rw[h1,h2];exact h.out
  .exact h.elim
 .simp only[RX.pP,RX.pK,ET] at h|-;split at h
  .rename_i h1;rw[h1];exact h.out
  .rename_i h1;rw[h1];exact h
  .rename_i h1;rw[h1];exact h
  .exact h.elim
 .simp only[RX.pP,RX.pK,unK] at h|-;split at h
  .rename_i h1;rw[h1];exact h.out
  .rename_i h1;rw[h1];exact h
  .exact h.elim
 .simp only[RX.pP,RX.pK,xV] at h|-;split at h
  .rename_i h1;rw[h1];exact h.out
  .rename_i h1;rw[h1];exact h
  .exact h.elim
 .exact KG h
 .simp only[RX.pP,RX.pK,Hh] at h|-;exact h
 .simp only[RX.pP,RX.pK,mkK] at h|-;split at h
  .rename_i h1 h2;rw[h1,h2];exact⟨h.p,h.k⟩
  .exact h.elim
 .exact DF h
def KK(z:Nat)(s:St)(o:Opd)(x:AV)(K:AV->St->Prop):Prop:=
 match x with
 |.sl _ xs=>match o with
  |.t t=>match s.get t with
   |.sl (.own z') l=>req (Nat.beq z z') (cG (Szs z xs) (cG (l.length+xs.length<=glim) (K (.sl (.own z) (l++xs)) (s.put (some t) (.sl .no l)))))
   |.sl .full l=>cG (Szs z (l++xs)) (cG (l.length+xs.length<=glim) (K (.sl (.own z) (l++xs)) s))
   |_=>False
  |.c (.sl .full l)=>cG (Szs z (l++xs)) (cG (l.length+xs.length<=glim) (K (.sl (.own z) (l++xs)) s))
  |_=>False
 |_=>False
theorem KJ{z:Nat}{s:St}{o:Opd}{x:AV}{K:AV->St->Prop}(h:KK z s o x K):fj z s o x K:=by
 unfold KK at h;unfold fj;split at h
 .split at h
  .split at h
   .rename_i h1;simp only[h1];obtain⟨h3,h4⟩:=ae.1 h;exact ae.2 ⟨h3,⟨h4.p.out,h4.k.p⟩,h4.k.k⟩
   .rename_i h1;simp only[h1];exact⟨⟨h.p.out,h.k.p⟩,h.k.k⟩
   .exact h.elim
  .exact ⟨⟨h.p.out,h.k.p⟩,h.k.k⟩
  .exact h.elim
 .exact h.elim
structure Jp(P:Program)(f:FuncId)(K:Prop):Prop where
 h:dI P f=true
 k:K
structure vP(bs:List Box)(b:Nat)(K:List AV->Prop):Prop where
 out:∃cs,aa bs b=some cs/\K cs
structure Ej(bs:List Box)(b:Nat)(cs:List AV)(K:List Box->Prop):Prop where
 out:K (bs.set b (.cells cs))
theorem vP.of{bs:List Box}{b:Nat}{K:List AV->Prop}{cs:List AV}(h:aa bs b=some cs)(k:K cs):vP bs b K:=⟨cs,h,k⟩
theorem vP.last{bs:List Box}{K:List AV->Prop}{cs:List AV}(k:K cs):vP (bs++[.cells cs]) bs.length K:=.of (by rw[aS,if_pos rfl];rfl) k
theorem vP.last2{bs:List Box}{K:List AV->Prop}{cs:List AV}{x:Box}(k:K cs):vP ((bs++[.cells cs])++[x]) bs.length K:=.of (by rw[aS,if_neg (by simp),aS,if_pos rfl];rfl) k
theorem Ej.last{bs:List Box}{c:Box}{cs:List AV}{K:List Box->Prop}(k:K (bs++[.cells cs])):Ej (bs++[c]) bs.length cs K:=⟨by simpa using k⟩
def ldK(agg:Bool)(n:Nat)(l:List AV)(K:AV->Prop):Prop:=
 match agg with
 |true=>req (Nat.ble n l.length) (K (.agg ((l.map AV.aF).take n)))
 |false=>match l with
  |c::_=>match c with
   |.sl (.own _) _=>False
   |c=>K c
  |[]=>False
theorem xE{s:St}{b off:Nat}{cs:List AV}(hb:aa s.bs b=some cs){agg:Bool}{n:Nat}{K:AV->Prop}(h:ldK agg n (cs.drop off) K):bM agg n (s.rd (.ptr b off)) K:=by
 unfold ldK at h;simp only[St.rd,hb,bM]
 cases agg with
 |true=>simpa using h
 |false=>
  simp only at h|-
  cases hc:cs.drop off with
  |nil=>rw[hc] at h;exact h.elim
  |cons c r=>
   rw[hc] at h;simp only[ZP]
   cases c with
   |sl o l=>cases o with
    |own z=>exact h.elim
    |_=>exact h
   |_=>exact h
theorem CH{s:St}{b off:Nat}{cs:List AV}(hb:aa s.bs b=some cs){agg:Bool}{n:Nat}{d:Option Nat}{K:St->Prop}(h:ldK agg n (cs.drop off) λr=>K (s.put d r)):eu agg n s d (.ptr b off) K:=by
 have h2:=xE (s:=s) hb h;unfold eu;split
 .rename_i t b' off' he;cases he;have hat:s.at (.bx b off)=cs[off]?:=by simp[St.at,hb]
  rw[hat];split
  .rename_i z l hz;have hlt:off<cs.length:=(ZB.1 hz).1
   have:cs.drop off=.sl (.own z) l::cs.drop (off+1):=by
    rw[ZH hlt,(ZB.1 hz).2]
   rw[this] at h;exact h.elim
  .exact h2
 .exact h2
def stV(s:St)(x:Opd):Bool:=match x with
 |.t k=>match s.get k with
  |.sl (.own _) _=>false
  |_=>true
 |_=>true
def stK(n:Nat)(s:St)(b off:Nat)(v:AV)(K:St->Prop):Prop:=vP s.bs b λcs=>req (aV v&&(Nat.beq v.cells.length n&&Nat.ble (off+n) cs.length)) (fsq (setAt cs off v.cells) λcs=>Ej s.bs b cs λbs=>K (s.wb bs))
theorem oO{n:Nat}{s:St}{b off:Nat}{v:AV}{K:St->Prop}(h:stK n s b off v K):bS n s (.ptr b off) v K:=by
 obtain⟨cs,h1,h2⟩:=h.out;obtain⟨h3,h4⟩:=ae.1 h2;simp only[bS,h1];rw[Hj] at h4;have h5:=h4.out;rw[St.FN] at h5;exact ae.2 ⟨h3,h5⟩
theorem zA{n:Nat}{s:St}{b off:Nat}{x:Opd}{K:St->Prop}(hx:stV s x=true)(h:stK n s b off (s.ev x) K):ll n s (.ptr b off) x K:=by
 have h2:=oO h;unfold ll;split
 .rename_i b' off' k he;cases he;split
  .rename_i z l hg;simp[stV,hg] at hx
  .exact h2
 .rename_i he;cases he
 .exact h2
structure lh(z:Nat)(s:St)(x y:AV)(K:AV->St->Prop):Prop where
 out:mG z s x y K
structure ZerN(z:Nat)(s:St)(x y:AV)(K:AV->St->Prop):Prop where
 out:vv z s x y K
structure Jo(l:List AV)(K:Bool->Prop):Prop where
 out:(l≠[]->K false)/\(l=[]->∀b,K b)
structure MkN(z:Nat)(zx:AV)(s:St)(l c:AV)(K:AV->St->Prop):Prop where
 out:mkB z zx s l c K
structure zq(l:List (Int×AV))(n:Int)(ok:Bool)(z:AV)(K:AV->Prop):Prop where
 out:match lP l n with
  |some x=>dB x=true/\K (okR ok x true)
  |none=>K (okR ok z false)
structure MqN(l:List (Int×AV×Nat))(n:Int)(ok:Bool)(z:AV)(K:AV->Prop):Prop where
 out:match Cg l n with
  |some x=>dB x=true/\K (okR ok x true)
  |none=>K (okR ok z false)
structure Jr(zx:AV)(s:St)(m k:AV)(K:AV->St->Prop):Prop where
 out:sq zx s m k K
structure Jl(s:St)(m j v:AV)(K:St->Prop):Prop where
 out:r6 s m j v K
structure Js(z:Nat)(vals:List AV)(s:St)(K:AV->St->Prop):Prop where
 out:Jb z vals s K
structure SsN(ks:List FK)(s:St)(m k v:AV)(K:St->Prop):Prop where
 out:Oh ks s m k v K
structure SgN(ks:List FK)(ok:Bool)(z:AV)(s:St)(m k:AV)(K:AV->Prop):Prop where
 out:OE ks ok z s m k K
def KT(x n:AV)(s:St)(d:Option Nat)(K:St->Prop):Prop:=
 match x,n with
 |.sl .full [],.int _ n=>cG (n=0) (K (s.put d (.sl .full [])))
 |_,_=>False
structure wL(bs:List Box)(b:Nat)(K:List (Int×AV)->Prop)(Kq:List (Int×AV×Nat)->Nat->Prop):Prop where
 out:(∃l,bs[b]? =some (.mp l)/\K l)\/(∃l c,bs[b]? =some (.mq l c)/\Kq l c)
theorem wL.of{bs:List Box}{b:Nat}{K:List (Int×AV)->Prop}{Kq:List (Int×AV×Nat)->Nat->Prop}{l:List (Int×AV)}(h:bs[b]? =some (.mp l))(k:K l):wL bs b K Kq:=⟨.inl ⟨l,h,k⟩⟩
theorem wL.q{bs:List Box}{b:Nat}{K:List (Int×AV)->Prop}{Kq:List (Int×AV×Nat)->Nat->Prop}{l:List (Int×AV×Nat)}{c:Nat}(h:bs[b]? =some (.mq l c))(k:Kq l c):wL bs b K Kq:=⟨.inr ⟨l,c,h,k⟩⟩
def Jv(s:St)(m k v:AV)(K:St->Prop):Prop:=
 match m,k with
 |.mpt b,.int .i64 n=>match s with
  |⟨e,bs,lo⟩=>wL bs b (λl=>cG (dB v=true) (K ⟨e,bs.set b (.mp (fw l n v)),lo⟩)) λl c=>cG (dB v=true) (K ⟨e,bs.set b (.mq (oY l n v c) (tJ l n c)),lo⟩)
 |_,_=>False
def JD(ok:Bool)(z:AV)(s:St)(m k:AV)(K:AV->Prop):Prop:=
 match m,k with
 |.mpt b,.int .i64 n=>match s with
  |⟨_,bs,_⟩=>wL bs b (λl=>zq l n ok z K) λl _=>MqN l n ok z K
 |.nmp,.int .i64 _=>K (okR ok z false)
 |_,_=>False
def IU(s:St)(d:Option Nat)(K:St->Prop):Prop:=match s with
 |⟨e,bs,lo⟩=>K (St.pt ⟨e,bs++[.mp []],lo⟩ d (.mpt bs.length))
theorem IT{s:St}{d:Option Nat}{K:St->Prop}:IU s d K=IV s d K:=by cases s;simp only[IU,IV,St.pU]
def IS(s:St)(d:Option Nat)(o:Opd)(K:St->Prop):Prop:=
 match o with
 |.c x=>K (s.pt d x)
 |.t t=>match s.get t with
  |.sl (.own z) l=>match d with
   |some d=>req (!(Nat.beq d t)) (K (((s.pt (some d) (.sl .no l)).pt (some t) (.sl .no l)).pt (some d) (.sl (.own z) l)))
   |none=>False
  |x=>K (s.pt d x)
theorem IQ{s:St}{d:Option Nat}{o:Opd}{K:St->Prop}:IS s d o K=sR s d o K:=by
 unfold IS sR;simp only[St.pU];rfl
def KF(s:St)(d:Option Nat)(x:AV)(K:St->Prop):Prop:=match s with
 |⟨e,bs,lo⟩=>req (aV x) (fsq x.cells λcs=>K (St.pt ⟨e,bs++[.cells cs],lo⟩ d (.ptr bs.length 0)))
theorem Jc{s:St}{d:Option Nat}{x:AV}{K:St->Prop}:KF s d x K=Fu s x λr s'=>K (s'.put d r):=by
 cases s;simp only[KF,Fu,Hj,St.pU,St.fL]
def KA(e:Eff)(vals:List AV)(s:St)(d:Option Nat)(K:St->Prop):Prop:=
 match e,vals with
 |.mG z,[x,y]=>lh z s x y λr s'=>K (s'.pt d r)
 |.vv z,[x,y]=>ZerN z s x y λr s'=>K (s'.pt d r)
 |.slN,[x,n]=>KT x n s d K
 |.mkM,[]=>IU s d K
 |.mkM,[.int _ _]=>IU s d K
 |.vV,[m,k,v]=>Jv s m k v K
 |.getM ok zx,[m,k]=>JD ok zx s m k λr=>K (s.pt d r)
 |.mkB z zx,[l,c]=>MkN z zx s l c λr s'=>K (s'.pt d r)
 |.Hy zx,[m,k]=>Jr zx s m k λr s'=>K (s'.pt d r)
 |.F4,[m,j,v]=>Jl s m j v K
 |.bsR z,vals=>Js z vals s λr s'=>K (s'.pt d r)
 |.Cv neg,[.sl _ l]=>Jo l λb=>K (s.pt d (.bool (cZ neg b)))
 |.OU ks,[m,k,v]=>SsN ks s m k v K
 |.OF ks ok zx,[m,k]=>SgN ks ok zx s m k λr=>K (s.pt d r)
 |_,_=>False
theorem Kz{e:Eff}{vals:List AV}{s:St}{d:Option Nat}{K:St->Prop}(h:KA e vals s d K):rN e vals s d K:=by
 unfold KA at h;simp only[St.pU,IT] at h;unfold rN;split at h
 .exact h.out
 .exact h.out
 .unfold KT at h;unfold B7;split at h
  .exact ⟨h.p,h.k⟩
  .exact h.elim
 .exact h
 .exact h
 .unfold Jv at h;unfold th;split at h
  .obtain ⟨e,bs,lo⟩:=s;rcases h.out with ⟨l,hb,h2⟩|⟨l,c,hb,h2⟩<;>simp only[hb]<;>exact⟨h2.p,h2.k⟩
  .exact h.elim
 .unfold JD at h;unfold uI;split at h
  .obtain ⟨e,bs,lo⟩:=s;rcases h.out with ⟨l,hb,h2⟩|⟨l,c,hb,h2⟩<;>simp only[hb]<;>exact h2.out
  .exact h
  .exact h.elim
 .exact h.out
 .exact h.out
 .exact h.out
 .exact h.out
 .exact h.out
 .exact h.out
 .exact h.out
 .exact h.elim
structure ElN(agg:Bool)(n:Nat)(s:St)(p:AV)(K:AV->Prop):Prop where
 out:bM agg n (s.rd p) K
structure EsN(n:Nat)(s:St)(b i z off:Nat)(v:AV)(K:St->Prop):Prop where
 out:lp n s b i z off v K
def RX.gp(P:Program)(fb dr:Bool)(rx:RX)(s:St)(d:Option Nat)(K:St->Prop):Prop:=
 match rx with
 |.call f args=>vh P dr s d (s.ev f) (evs s.ev args) K
 |.dD f args=>match s.ev f with
  |.fn (.func k) xs ys=>Jp P k (vh P dr s d (.fn (.func k) xs ys) (evs s.ev args) K)
  |.yl b=>vh P dr s d (.yl b) (evs s.ev args) K
  |_=>False
 |.mov o=>match dr with
  |true=>K (s.pt d (s.ev o))
  |false=>IS s d o K
 |.take t=>IS s d (.t t) K
 |.box o=>KF s d (s.ev o) K
 |.load agg n o=>match s.ev o with
  |.elp b i z off=>ElN agg n s (.elp b i z off) λr=>K (s.pt d r)
  |p=>match fb with
   |true=>match dr with
    |true=>bM agg n (s.rd p) λr=>K (s.pt d r)
    |false=>eu agg n s d p K
   |false=>match p with
    |.ptr b off=>vP s.bs b λcs=>ldK agg n (cs.drop off) λr=>K (s.pt d r)
    |p=>match dr with
     |true=>bM agg n (s.rd p) λr=>K (s.pt d r)
     |false=>eu agg n s d p K
 |.store n p x=>match s.ev p with
  |.elp b i z off=>match dr with
   |true=>False
   |false=>EsN n s b i z off (s.ev x) K
  |q=>match fb with
   |true=>match dr with
    |true=>bS n s q (s.ev x) K
    |false=>ll n s q x K
   |false=>match q with
    |.ptr b off=>req (stV s x) (stK n s b off (s.ev x) K)
    |_=>False
 |.stn bnd n p x=>match dr with
  |true=>match s.ev p with
   |.ptr b off=>req (Nat.ble bnd b) (match fb with
    |true=>bS n s (.ptr b off) (s.ev x) K
    |false=>req (stV s x) (stK n s b off (s.ev x) K))
   |_=>False
  |false=>False
 |.append z o x=>KK z s o (s.ev x) λr s'=>K (s'.pt d r)
 |.eff e args=>match dr with
  |true=>False
  |false=>KA e (evs s.ev args) s d K
 |rx=>rx.pP s.ev s.rd λr=>K (s.pt d r)
theorem RX.lU{P:Program}{fb dr:Bool}{rx:RX}{s:St}{d:Option Nat}{K:St->Prop}(h:rx.gp P fb dr s d K):rx.run P dr s d K:=by
 unfold RX.gp at h;simp only[St.pU,IQ,Jc] at h
 cases rx with
 |call f args=>cases dr<;>simpa only[RX.gp,RX.run,vg] using h
 |dD f args=>
  simp only[RX.gp] at h;simp only[RX.run];split at h
  .rename_i k xs ys he;rw[he];have h2:=h.k;rw[vg] at h2;exact⟨h.h,by cases dr<;>exact h2⟩
  .rename_i b he;rw[he];rw[vg] at h;exact⟨trivial,by cases dr<;>exact h⟩
  .exact h.elim
 |append z o x=>exact KJ (K:=λr s'=>K (s'.put _ r)) h
 |mov|take|box=>exact h
 |eff e args=>
  cases dr with
  |true=>exact h.elim
  |false=>exact Kz h
 |load agg n o=>
  simp only[RX.gp,RX.run] at h|-;split at h
  .rename_i b i z off he;rw[he];have h2:=h.out
   cases dr with
   |true=>exact h2
   |false=>cases agg<;>cases d<;>exact h2
  .cases fb with
   |true=>exact h
   |false=>
    simp only at h;split at h
    .rename_i b off he;obtain⟨cs,h1,h2⟩:=h.out;rw[he]
     cases dr with
     |true=>exact xE h1 h2
     |false=>exact CH h1 h2
    .exact h
 |store n p x=>
  simp only[RX.gp,RX.run] at h|-;split at h
  .rename_i b i z off he;rw[he]
   cases dr with
   |true=>exact h.elim
   |false=>
    have h2:=h.out;rcases n with _|_|n<;>first|exact h2|(cases x<;>exact h2)
  .cases fb with
   |true=>exact h
   |false=>
    simp only at h;split at h
    .rename_i b off he;obtain⟨h1,h2⟩:=ae.1 h;rw[he]
     cases dr with
     |true=>exact oO h2
     |false=>exact zA h1 h2
    .exact h.elim
 |stn bnd n p x=>
  cases dr with
  |false=>exact h.elim
  |true=>
   simp only[RX.gp,RX.run,vT] at h|-;split at h
   .rename_i b off he;rw[he];obtain⟨h1,h2⟩:=ae.1 h;refine ae.2 ⟨h1,?_⟩
    cases fb with
    |true=>exact h2
    |false=>exact oO (ae.1 h2).2
   .exact h.elim
 |c6 mx x y=>exact RX.sJ (rx:=.c6 mx x y) (ev:=s.ev) (rd:=s.rd) (K:=λr=>K (s.put _ r)) h
 |ql a b x i=>exact RX.sJ (rx:=.ql a b x i) (ev:=s.ev) (rd:=s.rd) (K:=λr=>K (s.put _ r)) h
 |slc a b c d e=>exact RX.sJ (rx:=.slc a b c d e) (ev:=s.ev) (rd:=s.rd) (K:=λr=>K (s.put _ r)) h
 |pick a b c=>exact RX.sJ (rx:=.pick a b c) (ev:=s.ev) (rd:=s.rd) (K:=λr=>K (s.put _ r)) h
 |idx a b c=>exact RX.sJ (rx:=.idx a b c) (ev:=s.ev) (rd:=s.rd) (K:=λr=>K (s.put _ r)) h
 |pg a b=>exact RX.sJ (rx:=.pg a b) (ev:=s.ev) (rd:=s.rd) (K:=λr=>K (s.put _ r)) h
 |len a b=>exact RX.sJ (rx:=.len a b) (ev:=s.ev) (rd:=s.rd) (K:=λr=>K (s.put _ r)) h
 |un a b=>exact RX.sJ (rx:=.un a b) (ev:=s.ev) (rd:=s.rd) (K:=λr=>K (s.put _ r)) h
 |conv a b=>exact RX.sJ (rx:=.conv a b) (ev:=s.ev) (rd:=s.rd) (K:=λr=>K (s.put _ r)) h
 |bin a b c=>exact RX.sJ (rx:=.bin a b c) (ev:=s.ev) (rd:=s.rd) (K:=λr=>K (s.put _ r)) h
 |aG a b=>exact RX.sJ (rx:=.aG a b) (ev:=s.ev) (rd:=s.rd) (K:=λr=>K (s.put _ r)) h
 |more g a=>exact DF (K:=λr=>K (s.put _ r)) h
 |mk a b c d=>exact RX.sJ (rx:=.mk a b c d) (ev:=s.ev) (rd:=s.rd) (K:=λr=>K (s.put _ r)) h
 |_=>exact h
def ROp.gp(P:Program)(fb dr:Bool)(r:ROp)(s:St)(K:St->Prop):Prop:=
 match r.guard with
 |none=>r.rx.gp P fb dr s r.dst K
 |some (g,want)=>match s.ev (.t g) with
  |.bool b=>match want with
   |true=>aq b (r.rx.gp P fb dr s r.dst K) (K (s.pt r.dst (.tup [])))
   |false=>aq b (K (s.pt r.dst (.tup []))) (r.rx.gp P fb dr s r.dst K)
  |.tup []=>K (s.pt r.dst (.tup []))
  |_=>False
theorem ROp.lU{P:Program}{fb dr:Bool}{r:ROp}{s:St}{K:St->Prop}(h:r.gp P fb dr s K):r.run P dr s K:=by
 unfold ROp.gp at h;simp only[St.pU] at h;unfold ROp.run;split at h
 .rename_i hg;rw[hg];exact RX.lU h
 .rename_i g want hg;rw[hg];simp only;split at h
  .rename_i b hb;rw[hb];simp only[gv]
   cases want with
   |true=>exact⟨λe=>RX.lU (h.t e),λe=>h.f (by cases b;rfl;exact absurd rfl e)⟩
   |false=>exact⟨λe=>RX.lU (h.f e),λe=>h.t (by cases b;exact absurd rfl e;rfl)⟩
  .rename_i hb;rw[hb];simp only[gv];exact⟨λe=>(by cases want<;>cases e),λ_=>h⟩
  .exact h.elim
def IC(P:Program)(fb:Bool)(dr:Bool):List ROp->St->(St->Prop)->Prop
 |[],s,K=>K s
 |r::rs,s,K=>r.gp P fb dr s λs'=>s'.fo fb λs'=>IC P fb dr rs s' K
theorem Cm{P:Program}{fb dr:Bool}:∀{rs:List ROp} {s:St} {K:St->Prop},IC P fb dr rs s K->tN P dr rs s K
 |[],_,_,h=>h
 |r::rs,s,K,h=>by
  refine ROp.mono (λs' hs'=>?_) (ROp.lU h);rw[St.c9] at hs';exact Cm hs'
def F8(P:Program)(fb:Bool)(p:Nat):Nat->List ROp->St->(St->Prop)->Prop
 |_,[],s,K=>K s
 |i,r::rs,s,K=>r.gp P fb (!(Nat.beq i p)) s λs'=>s'.fo fb λs'=>F8 P fb p (i+1) rs s' K
theorem Dn{P:Program}{fb:Bool}{p:Nat}:∀{rs:List ROp} {i:Nat} {s:St} {K:St->Prop},F8 P fb p i rs s K->tg P p i rs s K
 |[],_,_,_,h=>h
 |r::rs,i,s,K,h=>by
  refine ROp.mono (λs' hs'=>?_) (ROp.lU h);rw[St.c9] at hs';exact Dn hs'
def sd(P:Program)(fb:Bool)(V:List Nat):List (Nat×ROp)->St->(St->Prop)->Prop
 |[],s,K=>K s
 |(c,r)::l,s,K=>match c with
  |0=>r.gp P fb true s λs'=>s'.fo fb λs'=>sd P fb V l s' K
  |1=>r.gp P fb false s λs'=>s'.fo fb λs'=>sd P fb V l s' K
  |_+2=>r.gp P fb false s λs'=>s'.fo fb λs'=>wK (CQ s V) s.bs s'.bs (sd P fb V l s' K)
theorem lN{P:Program}{fb:Bool}{V:List Nat}:∀{q:List (Nat×ROp)} {s:St} {K:St->Prop},sd P fb V q s K->il P V q s K
 |[],_,_,h=>h
 |(0,r)::l,s,K,h=>by
  refine ROp.mono (λs' hs'=>?_) (ROp.lU h);rw[St.c9] at hs'
  exact lN hs'
 |(1,r)::l,s,K,h=>by
  refine ROp.mono (λs' hs'=>?_) (ROp.lU h);rw[St.c9] at hs'
  exact lN hs'
 |(_+2,r)::l,s,K,h=>by
  refine ROp.mono (λs' hs'=>?_) (ROp.lU h);rw[St.c9] at hs';exact⟨hs'.h,lN hs'.k⟩
structure yc(p q:Prop):Prop where
 p:p
 q:q
structure aw(P:Program)(c:RC)(s:St)(Q:AX->St->Prop):Prop where
 out:(RC.loop c).wp P s Q
structure px(P:Program)(g:Opd)(ps:List Nat)(a b:RC)(s:St)(Q:AX->St->Prop):Prop where
 out:(RC.range g ps a b).wp P s Q
def RC.gp(P:Program)(fb:Bool):RC->St->(AX->St->Prop)->Prop
 |.skip,s,Q=>Q .normal s
 |.reg dr keep ops,s,Q=>IC P fb dr ops s λs'=>(s'.kp keep).fo fb λs'=>Q .normal s'
 |.solo p keep ops,s,Q=>F8 P fb p 0 ops s λs'=>(s'.kp keep).fo fb λs'=>Q .normal s'
 |.mult keep ops,s,Q=>sd P fb (iq ops) ops s λs'=>(s'.kp keep).fo fb λs'=>Q .normal s'
 |.both keep qa q1 q2,s,Q=>sd P fb (aX qa q1 q2) qa s λsA=>yc (sd P fb (aX qa q1 q2) q1 sA λs'=>(s'.kp keep).fo fb λs'=>Q .normal s') (sd P fb (aX qa q1 q2) q2 sA λs'=>(s'.kp keep).fo fb λs'=>Q .normal s')
 |.seq a b,s,Q=>a.gp P fb s (mc (λs'=>b.gp P fb s' Q) Q)
 |.cond c a b,s,Q=>match s.ev c with
  |.bool t=>aq t (a.gp P fb s Q) (b.gp P fb s Q)
  |_=>False
 |.block id c,s,Q=>c.gp P fb s (vn id Q)
 |.loop c,s,Q=>aw P c s Q
 |.range g ps a b,s,Q=>px P g ps a b s Q
 |.exit id,s,Q=>Q (.exit id) s
 |.ret,s,Q=>Q .ret s
theorem RC.kU{P:Program}{fb:Bool}:∀{c:RC} {s:St} {Q:AX->St->Prop},c.gp P fb s Q->c.wp P s Q
 |.skip,_,_,h=>h
 |.reg dr keep ops,s,Q,h=>eV (λs' hs'=>by rwa [St.c9] at hs') (Cm h)
 |.solo p keep ops,s,Q,h=>lr (λs' hs'=>by rwa [St.c9] at hs') (Dn h)
 |.mult keep ops,s,Q,h=>aY (λs' hs'=>by rwa [St.c9] at hs') (lN h)
 |.both keep qa q1 q2,s,Q,h=>aY (λsA hs'=>⟨aY (λs' hs'=>by rwa [St.c9] at hs') (lN hs'.p),aY (λs' hs'=>by rwa [St.c9] at hs') (lN hs'.q)⟩) (lN h)
 |.seq a b,s,Q,h=>RC.wp_mono (c:=a) (λx s' hx=>oL (λs2 h2=>RC.kU (c:=b) h2) x s' hx) (RC.kU (c:=a) h)
 |.cond c a b,s,Q,h=>by
  simp only[RC.gp,RC.wp] at h|-;split at h
  .rename_i t ht;rw[ht];exact⟨λe=>RC.kU (c:=a) (h.t e),λe=>RC.kU (c:=b) (h.f e)⟩
  .exact h.elim
 |.block id c,s,Q,h=>RC.kU (c:=c) h
 |.loop c,s,Q,h=>h.out
 |.range g ps a b,s,Q,h=>h.out
 |.exit id,_,_,h=>h
 |.ret,_,_,h=>h
def o5:AV->AV
 |.tup cs=>.tup (cs.map AV.norm)
 |x=>x.norm
theorem RV.o5{M:Hp}{σ:Nat->Nat}{n:Nat}{x:AV}{v:Value}(h:RV M σ n x v):RV M σ n (o5 x) v:=by
 cases x with
 |tup cs=>
  obtain⟨vs,rfl,hl,hv⟩:=h.s8;refine .tup _ vs (by simpa using hl) λj hj v hjv=>?_
  simp only[ZF] at hj;rw[YA]
  exact(hv j hj v hjv).norm
 |_=>exact h.norm
theorem CX(x:AV):AM.o5 x.aF=AM.o5 x:=by
 cases x with
 |sl o l=>cases o<;>rfl
 |_=>rfl
theorem Sem.nrm{P:Program}{f:FuncId}{vals:List AV}{bs:List Box}{Q:AV->List Box->Prop}(h:Sem P f vals bs λr b=>Q r b\/Q (o5 r) b):Sem P f vals bs Q:=by
 intro E G a0 w args lo h1 h2 h3;refine(h E G a0 w args lo h1 h2 h3).mono ?_;rintro e w' ⟨v,r,bs',G',rfl,q,hs⟩;rcases q with q|q
 .exact ⟨v,r,bs',G',rfl,q,hs⟩
 .have hat:(⟨[(0,r)],bs',bs.length⟩:St).at (.sl 0)=some r:=rfl;have hv:=hs.val _ _ hat
  have:=hs.upd (q:=.sl 0) hat (x:=o5 r) (by
   have:=hv.o5
   rwa [CX] at this)
  exact⟨v,o5 r,bs',_,rfl,q,this⟩
structure af(s:St)(rs:List cm)(Q:AV->List Box->Prop):Prop where
 out:∃s',aB s s'/\oU s' rs λr b=>Q r b\/Q (o5 r) b
theorem qD{s:St}{rs:List cm}{Q Q':AV->List Box->Prop}(hq:∀r b,Q r b->Q' r b)(h:oU s rs Q):oU s rs Q':=by
 have hV:∀{r:cm} {K K':AV->Prop},(∀x,K x->K' x)->Ce s r K->Ce s r K':=λ{r} {K K'} hk h=>by
  cases r with
  |slot t=>exact hk _ h
  |cell t agg n=>
   simp only[Ce,bM] at h|-;split at h
   .split at h
    .obtain ⟨h1,h2⟩:=ae.1 h;exact ae.2 ⟨h1,hk _ h2⟩
    .split at h
     .exact hk _ h
     .exact h
   .exact h
 have hVs:∀{rs:List cm} {K K':List AV->Prop},(∀x,K x->K' x)->zS s rs K->zS s rs K':=λ{rs}=>by
  induction rs with
  |nil=>exact λhk h=>hk _ h
  |cons r rs ih=>exact λhk h=>hV (λx hx=>ih (λxs hxs=>hk _ hxs) hx) h
 unfold oU at h|-;split at h
 .exact hq _ _ h
 .exact hV (λx hx=>hq _ _ hx) h
 .exact hVs (λx hx=>hq _ _ hx) h
theorem af.nrm{s:St}{rs:List cm}{Q:AV->List Box->Prop}(h:oU s rs λr b=>fv (o5 r) λx=>Q x b):af s rs Q:=⟨s,aB.refl s,qD (λr b q=>.inr (by rwa [xK] at q)) h⟩
theorem af.of{s:St}{rs:List cm}{Q:AV->List Box->Prop}(h:Jm s rs Q):af s rs Q:=by
 obtain⟨s',h1,h2⟩:=h.out;exact⟨s',h1,qD (λr b q=>.inl q) h2⟩
theorem af.cut{s:St}{rs:List cm}{Q:AV->List Box->Prop}(n:Nat)(hlo:s.lo<=n)(hn:n<=s.bs.length)(h1:mi n s.env=true)(h2:aj n (s.bs.take n)=true)(h:af ⟨s.env,s.bs.take n,s.lo⟩ rs Q):af s rs Q:=by
 obtain⟨s',h3,h4⟩:=h.out;exact⟨s',(aB.cut s n hlo hn h1 h2).trans h3,h4⟩
def KW(rs:List cm)(Q:AV->List Box->Prop):AX->St->Prop
 |.normal,s=>af s rs Q
 |.ret,s=>af s rs Q
 |_,_=>False
theorem JW{P:Program}{fb:Bool}{c:RC}{vals:List AV}{bs:List Box}{rs:List cm}{Q:AV->List Box->Prop}(h:(⟨params 0 vals,bs,bs.length⟩:St).fo fb λs=>c.gp P fb s (KW rs Q)):c.wp P ⟨params 0 vals,bs,bs.length⟩ λx s=>∃s',aB s s'/\Ir rs (λr b=>Q r b\/Q (o5 r) b) x s':=by
 rw[St.c9] at h;refine RC.wp_mono (λx s hx=>?_) (RC.kU h)
 cases x with
 |normal=>exact hx.out
 |ret=>exact hx.out
 |exit id=>exact hx.elim
inductive WkV:AV->AV->Prop
 |eq {x y:AV} (h:x=y):WkV x y
 |aQ {z:Nat} {l m:List AV} (h:Szs z l) (e:l=m):WkV (.sl .full l) (.sl (.own z) m)
 |norm (x:AV):WkV x x.norm
theorem aB.ext{s t:St}(h:∀k,ak t.env k=ak s.env k)(hb:t.bs=s.bs)(hl:t.lo=s.lo):aB s t:=λE G a w hs=>by
 obtain⟨e,bs,lo⟩:=s;obtain⟨e',bs',lo'⟩:=t;simp only at h hb hl;subst hb hl
 have hat:∀p,(⟨e',bs',lo'⟩:St).at p=(⟨e,bs',lo'⟩:St).at p:=λp=>by
  cases p with
  |sl t=>exact h t
  |bx b j=>rfl
 exact⟨G,hs.fr,hs.ok,hs.nt,λp x hp=>hs.val p x (by rw[<-hat];exact hp),λb j x hp=>hs.one b j x (by rw[<-hat];exact hp),hs.box,hs.bmem,hs.inj,λp z l hp=>hs.own p z l (by rw[<-hat];exact hp),hs.clinj,hs.clbox,hs.cllt,hs.lo,hs.len,hs.sig,hs.sp⟩
theorem aB.slot{s:St}{k:Nat}{x y:AV}(h0:ak s.env k=some x)(h:WkV x y):aB s (s.put (some k) y):=by
 cases h with
 |eq h=>
  subst h;refine aB.ext (λj=>?_) rfl rfl;simp only[St.put,eZ];split
  .rename_i e;rw[e,h0]
  .rfl
 |aQ hz e=>subst e;exact aB.aQ s k _ _ h0 hz.out
 |norm=>exact aB.norm s k x h0
theorem iy:∀(pre r:List (Nat×AV)) (k:Nat),ak (pre++r) k=match ak pre k with|some x=>some x|none=>ak r k
 |[],r,k=>rfl
 |(t,x)::pre,r,k=>by
  simp only[Ze,ak]
  cases Nat.beq t k with
  |true=>rfl
  |false=>exact iy pre r k
theorem aB.at_{pre r:List (Nat×AV)}{bs:List Box}{lo k:Nat}{x y:AV}(h:WkV x y):aB ⟨pre++(k,x)::r,bs,lo⟩ ⟨pre++(k,y)::r,bs,lo⟩:=by
 cases hp:ak pre k with
 |some z=>
  refine aB.ext (λj=>?_) rfl rfl;simp only[iy,ak]
  by_cases e:k=j
  .subst e;rw[hp]
  .rw [cg e]
 |none=>
  refine(aB.slot (s:=⟨pre++(k,x)::r,bs,lo⟩) (k:=k) (x:=x) (by simp only[iy,hp,ak,Nat.beq_refl]) h).trans (aB.ext (λj=>?_) rfl rfl)
  simp only[St.put,eZ,iy,ak]
  by_cases e:k=j
  .subst e;rw[hp];simp
  .rw [if_neg (λh=>e h.symm),cg e]
theorem aB.JH{pre r:List (Nat×AV)}{bs:List Box}{lo k:Nat}{x:AV}(hp:∀t∈pre.map (·.1),t≠k)(hr:∀t∈r.map (·.1),t≠k):aB ⟨pre++(k,x)::r,bs,lo⟩ ⟨pre++r,bs,lo⟩:=by
 have hno:∀l:List (Nat×AV),(∀t∈l.map (·.1),t≠k)->ak l k=none:=λl=>by
  induction l with
  |nil=>exact λ_=>rfl
  |cons q l ih=>
   obtain⟨t,y⟩:=q;intro h;simp only[ak];rw[cg (h t (by simp))]
   exact ih λt ht=>h t (by simp only[ZP,ZI];exact .inr ht)
 refine(aB.keep _ ((pre++r).map (·.1))).trans (aB.ext (λj=>?_) rfl rfl)
 have hk:∀(f:Nat->Bool) (e:List (Nat×AV)),ak (eC f e) j=if f j then ak e j else none:=λf e=>by
  induction e with
  |nil=>simp[eC,ak]
  |cons q e ih=>
   obtain⟨t,y⟩:=q;simp only[eC]
   cases hf:f t with
   |true=>
    simp only[ak]
    cases hb:Nat.beq t j with
    |true=>have:=ZO hb;subst this;simp[hf]
    |false=>simp only;exact ih
   |false=>
    simp only[ak]
    cases hb:Nat.beq t j with
    |true=>have:=ZO hb;subst this;rw[ih];simp[hf]
    |false=>simp only;exact ih
 simp only[St.keep,hk]
 have hmem:∀(l:List Nat),mem j l=true↔j∈l:=λl=>by
  induction l with
  |nil=>simp[mem]
  |cons y l ih=>
   simp only[mem]
   cases hb:Nat.beq y j with
   |true=>have:=ZO hb;subst this;simp
   |false=>
    simp only[ih,ZI];exact⟨.inr,λh=>h.elim (λe=>by subst e;simp at hb) id⟩
 have hin:∀(l:List (Nat×AV)),j∉l.map (·.1)->ak l j=none:=λl=>by
  induction l with
  |nil=>exact λ_=>rfl
  |cons q l ih=>
   obtain⟨t,y⟩:=q;intro h;simp only[ZP,ZI,not_or] at h;simp only[ak];rw[cg (λe=>h.1 e.symm)];exact ih h.2
 by_cases hj:j∈(pre++r).map (·.1)
 .rw [if_pos ((hmem _).2 hj)];simp only[iy,ak]
  by_cases e:k=j
  .subst e;rw[Zt,ZY] at hj;rcases hj with hj|hj
   .exact absurd rfl (hp _ hj)
   .exact absurd rfl (hr _ hj)
  .rw [cg e]
 .rw [if_neg (λh=>hj ((hmem _).1 h)),hin _ hj]
structure WkN(x y:AV)(K:Prop):Prop where
 w:WkV x y
 k:K
theorem WkN.eq{x y:AV}{K:Prop}(h:x=y)(k:K):WkN x y K:=⟨.eq h,k⟩
theorem WkN.int{i:IntKind}{x y:Int}{K:Prop}(h:x=y)(k:K):WkN (.int i x) (.int i y) K:=⟨.eq (by rw[h]),k⟩
theorem WkN.bool{x y:Bool}{K:Prop}(h:x=y)(k:K):WkN (.bool x) (.bool y) K:=⟨.eq (by rw[h]),k⟩
theorem WkN.sl{o:Cap}{l m:List AV}{K:Prop}(h:l=m)(k:K):WkN (.sl o l) (.sl o m) K:=⟨.eq (by rw[h]),k⟩
theorem WkN.norm{x y:AV}{K:Prop}(h:x.norm=y)(k:K):WkN x y K:=⟨h▸.norm x,k⟩
theorem WkN.aQ{z:Nat}{l m:List AV}{K:Prop}(h:Szs z l)(e:l=m)(k:K):WkN (.sl .full l) (.sl (.own z) m) K:=⟨.aQ h e,k⟩
def tT(k:Nat):List (Nat×AV)->Bool
 |[]=>true
 |(t,_)::r=>match Nat.beq t k with
  |true=>false
  |false=>tT k r
def wkE:Nat->List (Nat×AV)->List (Nat×AV)->List (Nat×AV)->Prop
 |0,_,_,_=>False
 |_+1,_,[],[]=>True
 |n+1,pre,(k,x)::r,(k',y)::r'=>match Nat.beq k k' with
  |true=>WkN x y (wkE n (pre++[(k',y)]) r r')
  |false=>req (tT k pre&&tT k r) (wkE n pre r ((k',y)::r'))
 |n+1,pre,(k,_)::r,[]=>req (tT k pre&&tT k r) (wkE n pre r [])
 |_+1,_,[],_::_=>False
theorem kN{k:Nat}:∀{l:List (Nat×AV)},tT k l=true->∀t∈l.map (·.1),t≠k
 |[],_,_,h=>by cases h
 |(u,_)::r,h,t,ht=>by
  simp only[tT] at h;split at h
  .cases h
  .rename_i hb;simp only[ZP,ZI] at ht;rcases ht with rfl|ht
   .intro e;subst e;simp at hb
   .exact kN h t ht
theorem mK{bs:List Box}{lo:Nat}:∀{n:Nat} {pre e e':List (Nat×AV)},wkE n pre e e'->aB ⟨pre++e,bs,lo⟩ ⟨pre++e',bs,lo⟩
 |0,_,_,_,h=>h.elim
 |_+1,_,[],[],_=>aB.refl _
 |n+1,pre,(k,x)::r,(k',y)::r',h=>by
  simp only[wkE] at h;split at h
  .rename_i hb;have:=ZO hb;subst this;have:=mK (bs:=bs) (lo:=lo) h.k;simp only[Zg,List.singleton_append] at this;exact(aB.at_ h.w).trans this
  .obtain ⟨h1,h2⟩:=ae.1 h;simp only[ZD] at h1
   exact(aB.JH (kN h1.1) (kN h1.2)).trans (mK h2)
 |n+1,pre,(k,x)::r,[],h=>by
  simp only[wkE] at h;obtain⟨h1,h2⟩:=ae.1 h;simp only[ZD] at h1
  exact(aB.JH (kN h1.1) (kN h1.2)).trans (mK h2)
 |_+1,_,[],_::_,h=>h.elim
structure BxN(p K:Prop):Prop where
 p:p
 k:K
def eqC:List AV->List AV->Prop->Prop
 |[],[],K=>K
 |x::xs,y::ys,K=>BxN (x=y) (eqC xs ys K)
 |_,_,_=>False
theorem DX:∀{xs ys:List AV} {K:Prop},eqC xs ys K->xs=ys/\K
 |[],[],_,h=>⟨rfl,h⟩
 |x::xs,y::ys,K,h=>by
  obtain⟨h1,h2⟩:=DX h.k
  exact⟨by rw[h.p,h1],h2⟩
 |[],_::_,_,h=>h.elim
 |_::_,[],_,h=>h.elim
def eqB:List Box->List Box->Prop->Prop
 |[],[],K=>K
 |.cells cs::r,.cells ds::r',K=>eqC cs ds (eqB r r' K)
 |.dead::r,.dead::r',K=>eqB r r' K
 |.loop x::r,.loop y::r',K=>BxN (x=y) (eqB r r' K)
 |.row x::r,.row y::r',K=>BxN (x=y) (eqB r r' K)
 |.mp x::r,.mp y::r',K=>BxN (x=y) (eqB r r' K)
 |.mq x c::r,.mq y d::r',K=>BxN (x=y) (BxN (c=d) (eqB r r' K))
 |_,_,_=>False
theorem i6:∀{xs ys:List Box} {K:Prop},eqB xs ys K->xs=ys/\K
 |[],[],_,h=>⟨rfl,h⟩
 |.cells cs::r,.cells ds::r',K,h=>by
  obtain⟨h1,h2⟩:=DX h;obtain⟨h3,h4⟩:=i6 h2
  exact⟨by rw[h1,h3],h4⟩
 |.dead::r,.dead::r',K,h=>by
  obtain⟨h3,h4⟩:=i6 (xs:=r) (ys:=r') h
  exact⟨by rw[h3],h4⟩
 |.loop x::r,.loop y::r',K,h=>by
  obtain⟨h3,h4⟩:=i6 h.k
  exact⟨by rw[h.p,h3],h4⟩
 |.row x::r,.row y::r',K,h=>by
  obtain⟨h3,h4⟩:=i6 h.k
  exact⟨by rw[h.p,h3],h4⟩
 |.mp x::r,.mp y::r',K,h=>by
  obtain⟨h3,h4⟩:=i6 h.k
  exact⟨by rw[h.p,h3],h4⟩
 |.mq x c::r,.mq y d::r',K,h=>by
  obtain⟨h3,h4⟩:=i6 h.k.k
  exact⟨by rw[h.p,h.k.p,h3],h4⟩
 |[],_::_,_,h=>h.elim
 |.cells _::_,[],_,h=>h.elim
 |.cells _::_,.mq _ _::_,_,h=>h.elim
 |.mq _ _::_,.cells _::_,_,h=>h.elim
 |.cells _::_,.dead::_,_,h=>h.elim
 |.cells _::_,.loop _::_,_,h=>h.elim
 |.cells _::_,.row _::_,_,h=>h.elim
 |.cells _::_,.mp _::_,_,h=>h.elim
 |.dead::_,[],_,h=>h.elim
 |.dead::_,.mq _ _::_,_,h=>h.elim
 |.mq _ _::_,.dead::_,_,h=>h.elim
 |.dead::_,.cells _::_,_,h=>h.elim
 |.dead::_,.loop _::_,_,h=>h.elim
 |.dead::_,.row _::_,_,h=>h.elim
 |.dead::_,.mp _::_,_,h=>h.elim
 |.loop _::_,[],_,h=>h.elim
 |.loop _::_,.mq _ _::_,_,h=>h.elim
 |.mq _ _::_,.loop _::_,_,h=>h.elim
 |.loop _::_,.cells _::_,_,h=>h.elim
 |.loop _::_,.dead::_,_,h=>h.elim
 |.loop _::_,.row _::_,_,h=>h.elim
 |.loop _::_,.mp _::_,_,h=>h.elim
 |.row _::_,[],_,h=>h.elim
 |.row _::_,.mq _ _::_,_,h=>h.elim
 |.mq _ _::_,.row _::_,_,h=>h.elim
 |.row _::_,.cells _::_,_,h=>h.elim
 |.row _::_,.dead::_,_,h=>h.elim
 |.row _::_,.loop _::_,_,h=>h.elim
 |.row _::_,.mp _::_,_,h=>h.elim
 |.mp _::_,[],_,h=>h.elim
 |.mq _ _::_,[],_,h=>h.elim
 |.mp _::_,.mq _ _::_,_,h=>h.elim
 |.mq _ _::_,.mp _::_,_,h=>h.elim
 |.mp _::_,.cells _::_,_,h=>h.elim
 |.mp _::_,.dead::_,_,h=>h.elim
 |.mp _::_,.loop _::_,_,h=>h.elim
 |.mp _::_,.row _::_,_,h=>h.elim
theorem ah.at_{s t:St}(h:E5 true t.env λe=>fBs t.bs λb=>wkE 100 [] s.env e/\eqB s.bs b True)(hl:s.lo=t.lo):ah s t:=by
 rw[y5,nx] at h;obtain⟨e,bs,lo⟩:=s;obtain⟨e',bs',lo'⟩:=t;simp only at h hl;subst hl;obtain⟨h2,_⟩:=i6 h.2;subst h2;exact⟨mK h.1⟩
theorem ah.atS{s t:St}(h:wkE 100 [] s.env t.env)(hb:s.bs=t.bs)(hl:s.lo=t.lo):ah s t:=by
 obtain⟨e,bs,lo⟩:=s;obtain⟨e',bs',lo'⟩:=t;simp only at h hb hl;subst hb hl;exact⟨mK h⟩
def St.zG(s:St):List (Nat×AV)->St
 |[]=>s
 |(t,x)::r=>(s.put (some t) x).zG r
theorem ah.y8{s t:St}{own:List Box}{x:Box}(hb:s.bs=own++[x])(hlo:s.lo<=own.length)(h1:mi own.length s.env=true)(h2:aj own.length own=true)(h:ah ⟨s.env,own,s.lo⟩ t):ah s t:=
 ⟨(aB.cut s own.length hlo (by rw[hb];simp) h1 (by rw[hb];simpa using h2)).trans (by
  have:s.bs.take own.length=own:=by rw[hb];simp
  rw[this];exact h.out)⟩
theorem af.y8{s:St}{rs:List cm}{Q:AV->List Box->Prop}{own:List Box}{x:Box}(hb:s.bs=own++[x])(hlo:s.lo<=own.length)(h1:mi own.length s.env=true)(h2:aj own.length own=true)(h:af ⟨s.env,own,s.lo⟩ rs Q):af s rs Q:=by
 refine af.cut own.length hlo (by rw[hb];simp) h1 (by rw[hb];simpa using h2) ?_
 have:s.bs.take own.length=own:=by rw[hb];simp
 rw[this];exact h
theorem px.byW{P:Program}{g:Opd}{ps:List Nat}{a b:RC}{s:St}{Q:AX->St->Prop}(s0:St){gf:FuncId}{lb:List AV}{xs:List (List AV)}(hw:ah s s0)(hg:s0.ev g=.fn (.func gf) [] lb)(hbd:dI P gf=true)(hi:BV P gf (lb.map AV.norm) xs)(hlen:∀y∈xs,y.length=ps.length)
  (I:List (List AV)->List Box->Prop) (Ix:AX->List Box->Prop) (hI2:∀pre own,I pre own->aj own.length own=true) (hIx2:∀e own,Ix e own->aj own.length own=true) (hy:∀y∈xs,y.all (λv=>v.lt 0)=true) (h0:I [] s0.bs) (hI:∀pre own,I pre own->own.length=s0.bs.length) (hIx:∀e own,Ix e own->own.length=s0.bs.length)
  (round:∀x pre y rest own,pre++y::rest=xs->I pre own->a.wp P ⟨lF (eF s0.env) ps y,own++[.loop x],own.length+1⟩ λe s1=>match e with|.normal=>ag s1.bs s0.bs.length=some x/\b.wp P ⟨s1.env,s1.bs.set s0.bs.length .dead,s1.lo⟩ λe s3=>KO s3 e (λe own=>match e with|.normal=>I (pre++[y]) own|e=>Ix e own)|_=>False)
  (done:∀own,I xs own->(⟨s0.env,own++[.dead],s0.lo⟩:St).fo true λs'=>Q .normal s') (stop:∀e own,Ix e own->(⟨s0.env,own++[.dead],s0.lo⟩:St).fo true λs'=>Q e s'):
  px P g ps a b s Q:=by
 refine⟨s0,hw.out,?_⟩;rw[hg];refine⟨hbd,λx hx=>?_⟩;have hbl:∀own (y:LB),own.length=s0.bs.length->ag (own++[.loop y]) s0.bs.length=some y:=λown y h=>by rw[eH,if_pos h.symm]
 have hS:=hi.use s0.bs.length (s0.bs++[Box.loop x]) (λpre bs=>∃own,I pre own/\bs=own++[Box.loop x])
  (λbs=>∃e own,Ix e own/\((e=.ret/\bs=own++[Box.loop (x.done .ret)])\/∃id,e=.exit id/\bs=own++[Box.loop (x.done (.exit id))])) (by simp) ?_ ?_ (λy hyx v hv=>G0 (ZJ _) (ZS.1 (hy y hyx) v hv)) ?_ ⟨_,h0,rfl⟩
 refine⟨_,hS,?_⟩
 rotate_left 3
 .rintro pre y rest bs hxs ⟨own,hown,rfl⟩;have hl:=hI pre own hown;refine hx y _ _ (hbl own x hl) (hlen y (by rw[<-hxs];simp)) ?_
  have hr:=round x pre y rest own hxs hown;unfold Cb;simp only[ZC,ZX,YO,YG];refine RC.wp_mono (λe s1 h1=>?_) hr
  cases e with
  |ret=>exact h1
  |exit id=>exact h1
  |normal=>
   obtain⟨h2,h3⟩:=h1;refine⟨h2,?_⟩;refine RC.wp_mono (λe s3 h4=>?_) h3;obtain⟨s4,own',hw4,hb4,hJ⟩:=h4.out;refine⟨s4,hw4,?_⟩
   cases e with
   |normal=>
    simp only[tu,hb4]
    exact .inl ⟨trivial,own',hJ,j4 (hI _ _ hJ) _ _⟩
   |ret=>
    simp only[tu,hb4]
    exact .inr ⟨trivial,.ret,own',hJ,.inl ⟨rfl,j4 (hIx _ _ hJ) _ _⟩⟩
   |exit id=>
    simp only[tu,hb4];exact .inr ⟨trivial,.exit id,own',hJ,.inr ⟨id,rfl,j4 (hIx _ _ hJ) _ _⟩⟩
 .rintro r bs' (⟨own,hown,rfl⟩|⟨e,own,hown,hb⟩)
  .have hl:=hI _ own hown;refine .inl ⟨hbl own x hl,?_⟩;rw[j4 hl];have:=done own hown
   rwa [St.c9] at this
  .have hl:=hIx _ own hown;have hs:=stop e own hown;rw[St.c9] at hs;rcases hb with ⟨rfl,rfl⟩|⟨id,rfl,rfl⟩
   .exact .inr (.inl ⟨hbl own _ hl,by rw[j4 hl];exact hs⟩)
   .exact .inr (.inr ⟨id,hbl own _ hl,by rw[j4 hl];exact hs⟩)
 .rintro pre bs' ⟨own,hown,rfl⟩;have hl:=hI pre own hown;exact⟨by simp[hl],by rw[ZC,ZU,<-hl];exact lY (hI2 pre own hown) x⟩
 .rintro bs' ⟨e,own,hown,hb⟩;have hl:=hIx e own hown;rcases hb with ⟨_,rfl⟩|⟨id,_,rfl⟩
  .exact ⟨by simp[hl],by rw[ZC,ZU,<-hl];exact lY (hIx2 e own hown) _⟩
  .exact ⟨by simp[hl],by rw[ZC,ZU,<-hl];exact lY (hIx2 e own hown) _⟩
structure Jt(bs:List Box)(n:Nat)(x:LB)(K:Prop):Prop where
 h:ag bs n=some x
 k:K
def Q6(x:LB)(n:Nat)(K:St->Prop):AX->St->Prop
 |.normal,s=>Jt s.bs n x ((⟨s.env,s.bs.set n .dead,s.lo⟩:St).fo true K)
 |_,_=>False
structure vK(s:St)(own:List Box):Prop where
 out:∃lo,aB s ⟨[],own++[.dead],lo⟩
theorem vK.by{s:St}{own:List Box}(h:eqB (s.bs.take (own.length+1)) (own++[.dead]) True)(hlo:Nat.ble s.lo (own.length+1)=true)(hn:Nat.ble (own.length+1) s.bs.length=true)(h2:aj (own.length+1) (own++[.dead])=true):vK s own:=by
 obtain⟨h3,_⟩:=i6 h;refine⟨s.lo,?_⟩
 have hk:(s.keep [])=⟨[],s.bs,s.lo⟩:=by
  have:∀e:List (Nat×AV),eC (λk=>mem k []) e=[]:=λe=>by
   induction e with
   |nil=>rfl
   |cons p e ih=>obtain⟨k,v⟩:=p;simpa[eC,mem] using ih
  simp only[St.keep,this]
 refine(aB.keep s []).trans ?_;rw[hk];have:=aB.cut ⟨[],s.bs,s.lo⟩ (own.length+1) (Zr hlo) (Zr hn) rfl (by rw[h3];exact h2)
 rw[h3] at this;exact this
theorem aw.by{P:Program}{fb:Bool}{c:RC}{s:St}{Q:AX->St->Prop}{α:Type}(up:St->α->St)(inv:α->Prop)(mu:α->Nat)(a0:α)(h0:inv a0)(hw:ah s (up s a0))
  (round:∀a,inv a->(up s a).fo fb λs1=>c.gp P fb s1 (mc (λs'=>∃a',(inv a'/\mu a'<mu a)/\ah s' (up s a')) Q)):aw P c s Q:=by
 refine⟨λm s1=>∃a,m=mu a/\inv a/\s1=up s a,mu a0,up s a0,hw.out,⟨a0,rfl,h0,rfl⟩,?_⟩;rintro m s1 ⟨a,rfl,ha,rfl⟩;have:=round a ha;rw[St.c9] at this;refine RC.wp_mono (λx s' hx=>?_) (RC.kU this)
 cases x with
 |normal=>
  obtain⟨a',⟨h1,h2⟩,h3⟩:=hx
  exact⟨mu a',up s a',h2,h3.out,a',rfl,h1,rfl⟩
 |exit id=>exact hx
 |ret=>exact hx
theorem aw.count{P:Program}{fb:Bool}{c:RC}{s:St}{Q:AX->St->Prop}(n:Nat)(up:St->Nat->St)(inv:Nat->Prop)(h0:inv 0)(hw:ah s (up s 0))
  (round:∀j,j<n->inv j->(up s j).fo fb λs1=>c.gp P fb s1 (mc (λs'=>inv (j+1)/\ah s' (up s (j+1))) Q))
  (done:inv n->(up s n).fo fb λs1=>c.gp P fb s1 (mc (λ_=>False) Q)):aw P c s Q:=by
 refine⟨λm s1=>∃j,m=n-j/\(j<=n/\inv j)/\s1=up s j,n,up s 0,hw.out,⟨0,by omega,⟨ZJ _,h0⟩,rfl⟩,?_⟩
 rintro m s1 ⟨j,rfl,⟨hj,hi⟩,rfl⟩;rcases Zs j n with h|h
 .have:=round j h hi;rw[St.c9] at this;refine RC.wp_mono (λx s' hx=>?_) (RC.kU this)
  cases x with
  |normal=>exact⟨n-(j+1),up s (j+1),by omega,hx.2.out,j+1,rfl,⟨by omega,hx.1⟩,rfl⟩
  |exit id=>exact hx
  |ret=>exact hx
 .have e:j=n:=by omega
  subst e;have:=done hi;rw[St.c9] at this;refine RC.wp_mono (λx s' hx=>?_) (RC.kU this)
  cases x with
  |normal=>exact hx.elim
  |exit id=>exact hx
  |ret=>exact hx
end Go.AM
