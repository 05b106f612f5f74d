/-
  Texts of this aX joined (wip/gen/bundle.py),those declarations only that are needed:AmP. By an AI agent.
-/
import Derived.Test.YtpihbplamelcnaaGreatBao
set_option linter.unusedSimpArgs false
set_option linter.unusedVariables false
namespace Go.AM
open Go.CK Go.RowKit
structure ak(b:Bool)(A B:Prop):Prop where
 t:b=true->A
 f:b=false->B
theorem ak.yes{b:Bool}{A B:Prop}(h:b=true)(k:A):ak b A B:=⟨λ_=>k,λe=>absurd (h.symm.trans e) (by decide)⟩
theorem ak.no{b:Bool}{A B:Prop}(h:b=false)(k:B):ak b A B:=⟨λe=>absurd (h.symm.trans e) (by decide),λ_=>k⟩
theorem ak.not{b:Bool}{A B:Prop}(k:ak b B A):ak (!b) A B:=⟨λe=>k.f (by simpa using e),λe=>k.t (by simpa using e)⟩
theorem ak.is{p:Prop}[Decidable p]{A B:Prop}(h:p)(k:A):ak (decide p) A B:=.yes (decide_eq_true h) k
theorem ak.Qg{p:Prop}[Decidable p]{A B:Prop}(h:¬p)(k:B):ak (decide p) A B:=.no (decide_eq_false h) k
theorem ak.dec{p:Prop}[Decidable p]{A B:Prop}(h:p->A)(k:¬p->B):ak (decide p) A B:=⟨λe=>h (of_decide_eq_true e),λe=>k (of_decide_eq_false e)⟩
theorem ak.lt{x y:Int}{A B:Prop}(h:x<y->A)(k:y<=x->B):ak (decide (x<y)) A B:=.dec h λe=>k (by omega)
theorem ak.le{x y:Int}{A B:Prop}(h:x<=y->A)(k:y<x->B):ak (decide (x<=y)) A B:=.dec h λe=>k (by omega)
theorem ak.any{b:Bool}{A B:Prop}(h:b=true->A)(k:b=false->B):ak b A B:=⟨h,k⟩
theorem ak.or{b c:Bool}{A B:Prop}(h:ak b A (ak c A B)):ak (b||c) A B:=by
 cases b
 .exact h.f rfl
 .exact .yes rfl (h.t rfl)
structure dA(p K:Prop):Prop where
 p:p
 k:K
structure Szs(z:Nat)(l:List AV):Prop where
 out:∀y∈l,y.cells.length=z
theorem Szs.nil{z:Nat}:Szs z []:=⟨λ_ h=>by cases h⟩
theorem Szs.cons{z:Nat}{x:AV}{l:List AV}(h:x.cells.length=z)(k:Szs z l):Szs z (x::l):=⟨λy hy=>by rcases zI.1 hy with rfl|hy;exact h;exact k.out y hy⟩
theorem Szs.app{z:Nat}{l m:List AV}(h:Szs z l)(k:Szs z m):Szs z (l++m):=⟨λy hy=>by rcases zY.1 hy with hy|hy;exact h.out y hy;exact k.out y hy⟩
theorem Szs.map{α:Type}{z:Nat}{f:α->AV}{l:List α}(h:∀x,(f x).cells.length=z):Szs z (l.map f):=⟨λy hy=>by obtain⟨x,_,rfl⟩:=zk.1 hy;exact h x⟩
theorem Szs.take{z:Nat}{l:List AV}(h:Szs z l)(n:Nat):Szs z (l.take n):=⟨λy hy=>h.out y (List.mem_of_mem_take hy)⟩
theorem Szs.drop{z:Nat}{l:List AV}(h:Szs z l)(n:Nat):Szs z (l.drop n):=⟨λy hy=>h.out y (List.mem_of_mem_drop hy)⟩
theorem Szs.rep{z n:Nat}{x:AV}(h:x.cells.length=z):Szs z (List.replicate n x):=⟨λy hy=>by rw[(Zc.1 hy).2];exact h⟩
theorem Szs.set{z:Nat}{l:List AV}(h:Szs z l){x:AV}(hx:x.cells.length=z)(i:Nat):Szs z (l.set i x):=⟨λy hy=>by rcases List.mem_or_eq_of_mem_set hy with hy|rfl;exact h.out y hy;exact hx⟩
structure iJ(sz:Nat)(l:List AV)(n:Int)(K:AV->Prop):Prop where
 out:∃y,(0<=n/\l[n.toNat]? =some y/\y.cells.length=sz)/\K y
theorem iJ.known{α:Type}{f:α->AV}{sz:Nat}{l:List α}{n:Int}{K:AV->Prop}{x:α}(h:l[n.toNat]? =some x)(h0:0<=n)(hs:∀x,(f x).cells.length=sz)(k:K (f x)):iJ sz (l.map f) n K:=
 ⟨f x,⟨h0,by rw[ZF,h];rfl,hs x⟩,k⟩
theorem iJ.map{α:Type}{f:α->AV}{sz:Nat}{l:List α}{n:Int}{K:AV->Prop}(h0:0<=n)(h1:n<l.length)(hs:∀x,(f x).cells.length=sz)(k:∀x,l[n.toNat]? =some x->K (f x)):iJ sz (l.map f) n K:=
 have hx:l[n.toNat]? =some (l[n.toNat]'(by omega)):=zA (by omega)
 .known hx h0 hs (k _ hx)
theorem iJ.PF{α:Type}{f:α->AV}{sz:Nat}{l:List α}{n:Nat}{K:AV->Prop}{x:α}(h:l[n]? =some x)(hs:∀x,(f x).cells.length=sz)(k:K (f x)):iJ sz (l.map f) (n:Int) K:=.known (by simpa using h) (by omega) hs k
theorem iJ.Qd{α:Type}{f:α->AV}{sz:Nat}{l:List α}{n:Nat}{K:AV->Prop}(h1:n<l.length)(hs:∀x,(f x).cells.length=sz)(k:∀x,l[n]? =some x->K (f x)):iJ sz (l.map f) (n:Int) K:=.map (by omega) (by omega) hs λx hx=>k x (by simpa using hx)
structure JD(b:ByteArray)(n:Int)(K:Int->Prop):Prop where
 out:∃y,(0<=n/\b[n.toNat]? =some y)/\K y.toNat
structure pW(k:IntKind)(n:Int)(K:Int->Prop):Prop where
 out:K (k.wrap n)
theorem pW.i64{n:Int}{K:Int->Prop}(h:-9223372036854775808<=n/\n<=9223372036854775807)(k:K n):pW .i64 n K:=⟨by rw[IntWalk.i64_in n ⟨h.1,h.2⟩];exact k⟩
structure wj(l:List AV)(K:Int->Prop):Prop where
 out:K l.length
theorem wj.map{α:Type}{f:α->AV}{l:List α}{K:Int->Prop}(h:K l.length):wj (l.map f) K:=⟨by rw[zF];exact h⟩
theorem wj.app{l m:List AV}{K:Int->Prop}(h:wj l λa=>wj m λb=>K (a+b)):wj (l++m) K:=⟨by have:=h.out.out;rw[zC,Int.natCast_add];exact this⟩
theorem wj.any{l:List AV}{K:Int->Prop}(h:K l.length):wj l K:=⟨h⟩
def PU(op:BinOp)(a b:AV)(K:AV->Prop):Prop:=
 match a,b with
 |.int k x,.int k' y=>req (decide (k=k')) (match op with
  |.add=>pW k (x+y) λn=>K (.int k n)
  |.sub=>pW k (x-y) λn=>K (.int k n)
  |.mul=>pW k (x*y) λn=>K (.int k n)
  |.quo=>dA (y≠0) (pW k (x.tdiv y) λn=>K (.int k n))
  |.rem=>dA (y≠0) (K (.int k (x.tmod y)))
  |.eql=>K (.bool (decide (x=y)))
  |.neq=>K (.bool (!decide (x=y)))
  |.lss=>K (.bool (decide (x<y)))
  |.leq=>K (.bool (decide (x<=y)))
  |.gtr=>K (.bool (decide (y<x)))
  |.geq=>K (.bool (decide (y<=x)))
  |_=>False)
 |.str x,.str y=>match op with
  |.add=>dA (x.size+y.size<=lim) (K (.str (x++y)))
  |.eql=>K (.bool (decide (x=y)))
  |.neq=>K (.bool (!decide (x=y)))
  |op=>El op (.str x) (.str y) K
 |a,b=>El op a b K
theorem PT{op:BinOp}{a b:AV}{K:AV->Prop}(h:PU op a b K):El op a b K:=by
 unfold PU at h;split at h
 .unfold El;obtain⟨h1,h2⟩:=af.1 h;refine af.2 ⟨h1,?_⟩;cases op<;>first|exact h2|exact h2.out|exact⟨h2.p,h2.k.out⟩|exact⟨h2.p,h2.k⟩
 .split at h
  .exact ⟨h.p,h.k⟩
  .exact h
  .exact h
  .exact h
 .exact h
def O9(sz:Nat)(x:AV)(lo hi mx:Option AV)(K:AV->Prop):Prop:=
 match x with
 |.sl _ l=>bnd lo 0 λa=>bnd hi l.length λb=>match mx with
  |none=>dA (Szs sz l) (dA (0<=a/\a<=b/\b<=l.length) (K (.sl .no ((l.take b.toNat).drop a.toNat))))
  |some _=>bnd mx 0 λm=>dA (Szs sz l) (dA (0<=a/\a<=b/\b=m/\m<=l.length) (K (.sl .full ((l.take b.toNat).drop a.toNat))))
 |.bsl b m k=>bnd lo 0 λa=>bnd hi m λc=>match mx with
  |none=>dA (a=0/\0<=c/\c<=k/\c<=4294967296) (K (.bsl b c.toNat k))
  |some _=>bnd mx 0 λq=>dA (a=0/\0<=c/\c<=q/\q<=k/\c<=4294967296) (K (.bsl b c.toNat q.toNat))
 |_=>False
theorem O8{sz:Nat}{x:AV}{lo hi mx:Option AV}{K:AV->Prop}(h:O9 sz x lo hi mx K):G7 sz x lo hi mx K:=by
 unfold O9 at h;unfold G7;split at h
 .refine cP (λa ha=>cP (λb hb=>?_) ha) h;split at hb
  .exact ⟨⟨hb.p.out,hb.k.p⟩,hb.k.k⟩
  .exact cP (λm hm=>⟨⟨hm.p.out,hm.k.p⟩,hm.k.k⟩) hb
 .refine cP (λa ha=>cP (λb hb=>?_) ha) h;split at hb
  .exact ⟨hb.p,hb.k⟩
  .exact cP (λm hm=>⟨hm.p,hm.k⟩) hb
 .exact h.elim
def Mb(g:oI)(vals:List AV)(K:AV->Prop):Prop:=
 match g,vals with
 |.cap,[.sl .full l]=>wj l λn=>K (.int .i64 n)
 |g,vals=>match g.val vals with
  |some (.ok r)=>K r
  |some (.need p r)=>dA p (K r)
  |none=>False
theorem I5{g:oI}{vals:List AV}{K:AV->Prop}(h:Mb g vals K):eL g vals K:=by
 unfold Mb at h;unfold eL;split at h
 .exact h.out
 .split at h
  .rename_i r hg;simp only[hg];exact h
  .rename_i p r hg;simp only[hg];exact⟨h.p,h.k⟩
  .exact h.elim
def RX.pP(rx:RX)(ev:Opd->AV)(rd:AV->Option (List AV))(K:AV->Prop):Prop:=
 match rx with
 |.pick c a b=>match ev c with
  |.bool t=>ak t (K (ev a)) (K (ev b))
  |_=>False
 |.idx sz x i=>match ev x,ev i with
  |.sl _ l,.int _ n=>iJ sz l n λy=>K (.ept y.cells)
  |.bsl b m _,.int _ n=>dA (0<=n/\n<m) (K (.elp b n.toNat sz 0))
  |_,_=>False
 |.rS x i=>match ev x,ev i with
  |.str b,.int _ n=>JD b n λy=>K (.int .u8 y)
  |_,_=>False
 |.len str o=>match str,ev o with
  |false,.sl _ l=>wj l λn=>K (.int .i64 n)
  |false,.bsl _ m _=>K (.int .i64 m)
  |true,.str b=>K (.int .i64 b.size)
  |_,_=>False
 |.un op o=>match op,ev o with
  |.neg,.int k n=>pW k (0-n) λn=>K (.int k n)
  |.not,.bool b=>K (.bool (!b))
  |_,_=>False
 |.conv k o=>match k,ev o with
  |some k,.int _ n=>pW k n λn=>K (.int k n)
  |none,.str b=>K (.str b)
  |_,_=>False
 |.bin op x y=>PU op (ev x) (ev y) K
 |.mk sz z l c=>match ev l,ev c with
  |.int _ n,.int _ m=>dA (0<=n/\n<=m/\m<=4294967296) (K (.sl (.own sz) (List.replicate n.toNat z)))
  |_,_=>False
 |.fD mx x y=>match ev x,ev y with
  |.int k a,.int k' b=>req (decide (k=k')) (match mx with
   |true=>K (.int k (max a b))
   |false=>K (.int k (min a b)))
  |_,_=>False
 |.oE ln sz x i=>match ev i with
  |.int _ n=>req (FL (ev x)) (dA (0<=n/\n<(ln:Int)) (K (wB (n.toNat*sz) (ev x))))
  |_=>False
 |.slc sz x lo hi mx=>O9 sz (ev x) (lo.map ev) (hi.map ev) (mx.map ev) K
 |.more g args=>Mb g (evs ev args) K
 |.aE sz rs=>eU ev sz rs λl=>fvs l λl=>K (.sl .full l)
 |rx=>rx.pK ev rd K
theorem RX.vT{rx:RX}{ev:Opd->AV}{rd:AV->Option (List AV)}{K:AV->Prop}(h:rx.pP ev rd K):rx.pK ev rd K:=by
 cases rx<;>try exact h
 .simp only[RX.pP,RX.pK,mmK] at h|-;split at h
  .rename_i mx _ _ _ _ _ _ _ _ h1 h2;rw[h1,h2];simp only;obtain⟨h3,h4⟩:=af.1 h;refine af.2 ⟨h3,?_⟩;cases mx<;>exact h4
  .exact h.elim
 .simp only[RX.pP,RX.pK,CB] at h|-;split at h
  .rename_i h1;rw[h1];simp only;obtain⟨h3,h4⟩:=af.1 h;exact af.2 ⟨h3,h4.p,h4.k⟩
  .exact h.elim
 .exact O8 h
 .simp only[RX.pP,RX.pK,B9] at h|-;split at h
  .rename_i h1;rw[h1];exact⟨h.t,h.f⟩
  .exact h.elim
 .simp only[RX.pP,RX.pK,Kn] at h|-;split at h
  .rename_i h1 h2;rw[h1,h2];exact h.out
  .rename_i h1 h2;rw[h1,h2];exact⟨h.p,h.k⟩
  .exact h.elim
 .simp only[RX.pP,RX.pK,CA] at h|-;split at h
  .rename_i h1 h2;rw[h1,h2];exact h.out
  .exact h.elim
 .simp only[RX.pP,RX.pK,Kh] at h|-;split at h
  .rename_i h1;rw[h1];exact h.out
  .rename_i h1;rw[h1];exact h
  .rename_i h1;rw[h1];exact h
  .exact h.elim
 .simp only[RX.pP,RX.pK,unK] at h|-;split at h
  .rename_i h1;rw[h1];exact h.out
  .rename_i h1;rw[h1];exact h
  .exact h.elim
 .simp only[RX.pP,RX.pK,CV] at h|-;split at h
  .rename_i h1;rw[h1];exact h.out
  .rename_i h1;rw[h1];exact h
  .exact h.elim
 .exact PT h
 .simp only[RX.pP,RX.pK,Mw] at h|-;exact h
 .simp only[RX.pP,RX.pK,mkK] at h|-;split at h
  .rename_i h1 h2;rw[h1,h2];exact⟨h.p,h.k⟩
  .exact h.elim
 .exact I5 h
def PX(z:Nat)(s:St)(o:Opd)(x:AV)(K:AV->St->Prop):Prop:=
 match x with
 |.sl _ xs=>match o with
  |.t t=>match s.get t with
   |.sl (.own z') l=>req (Nat.beq z z') (dA (Szs z xs) (dA (l.length+xs.length<=glim) (K (.sl (.own z) (l++xs)) (s.put (some t) (.sl .no l)))))
   |.sl .full l=>dA (Szs z (l++xs)) (dA (l.length+xs.length<=glim) (K (.sl (.own z) (l++xs)) s))
   |_=>False
  |.c (.sl .full l)=>dA (Szs z (l++xs)) (dA (l.length+xs.length<=glim) (K (.sl (.own z) (l++xs)) s))
  |_=>False
 |_=>False
theorem PW{z:Nat}{s:St}{o:Opd}{x:AV}{K:AV->St->Prop}(h:PX z s o x K):hO z s o x K:=by
 unfold PX at h;unfold hO;split at h
 .split at h
  .split at h
   .rename_i h1;simp only[h1];obtain⟨h3,h4⟩:=af.1 h;exact af.2 ⟨h3,⟨h4.p.out,h4.k.p⟩,h4.k.k⟩
   .rename_i h1;simp only[h1];exact⟨⟨h.p.out,h.k.p⟩,h.k.k⟩
   .exact h.elim
  .exact ⟨⟨h.p.out,h.k.p⟩,h.k.k⟩
  .exact h.elim
 .exact h.elim
structure OF(P:Program)(f:FuncId)(K:Prop):Prop where
 h:eT P f=true
 k:K
structure wm(bs:List Box)(b:Nat)(K:List AV->Prop):Prop where
 out:∃cs,ab bs b=some cs/\K cs
structure JF(bs:List Box)(b:Nat)(cs:List AV)(K:List Box->Prop):Prop where
 out:K (bs.set b (.cells cs))
theorem wm.of{bs:List Box}{b:Nat}{K:List AV->Prop}{cs:List AV}(h:ab bs b=some cs)(k:K cs):wm bs b K:=⟨cs,h,k⟩
theorem wm.last{bs:List Box}{K:List AV->Prop}{cs:List AV}(k:K cs):wm (bs++[.cells cs]) bs.length K:=.of (by rw[aV,if_pos rfl];rfl) k
theorem wm.last2{bs:List Box}{K:List AV->Prop}{cs:List AV}{x:Box}(k:K cs):wm ((bs++[.cells cs])++[x]) bs.length K:=.of (by rw[aV,if_neg (by simp),aV,if_pos rfl];rfl) k
theorem JF.last{bs:List Box}{c:Box}{cs:List AV}{K:List Box->Prop}(k:K (bs++[.cells cs])):JF (bs++[c]) bs.length cs K:=⟨by simpa using k⟩
def ldK(agg:Bool)(n:Nat)(l:List AV)(K:AV->Prop):Prop:=
 match agg with
 |true=>req (Nat.ble n l.length) (K (.agg ((l.map AV.az).take n)))
 |false=>match l with
  |c::_=>match c with
   |.sl (.own _) _=>False
   |c=>K c
  |[]=>False
theorem Cw{s:St}{b off:Nat}{cs:List AV}(hb:ab s.bs b=some cs){agg:Bool}{n:Nat}{K:AV->Prop}(h:ldK agg n (cs.drop off) K):cB agg n (s.rd (.ptr b off)) K:=by
 unfold ldK at h;simp only[St.rd,hb,cB]
 cases agg with
 |true=>simpa using h
 |false=>
  simp only at h|-
  cases hc:cs.drop off with
  |nil=>rw[hc] at h;exact h.elim
  |cons c r=>
   rw[hc] at h;simp only[zP]
   cases c with
   |sl o l=>cases o with
    |own z=>exact h.elim
    |_=>exact h
   |_=>exact h
theorem HK{s:St}{b off:Nat}{cs:List AV}(hb:ab s.bs b=some cs){agg:Bool}{n:Nat}{d:Option Nat}{K:St->Prop}(h:ldK agg n (cs.drop off) λr=>K (s.put d r)):fE agg n s d (.ptr b off) K:=by
 have h2:=Cw (s:=s) hb h;unfold fE;split
 .rename_i t b' off' he;cases he;have hat:s.at (.bx b off)=cs[off]?:=by simp[St.at,hb]
  rw[hat];split
  .rename_i z l hz;have hlt:off<cs.length:=(zB.1 hz).1
   have:cs.drop off=.sl (.own z) l::cs.drop (off+1):=by
    rw[zH hlt,(zB.1 hz).2]
   rw[this] at h;exact h.elim
  .exact h2
 .exact h2
def stV(s:St)(x:Opd):Bool:=match x with
 |.t k=>match s.get k with
  |.sl (.own _) _=>false
  |_=>true
 |_=>true
def stK(n:Nat)(s:St)(b off:Nat)(v:AV)(K:St->Prop):Prop:=wm s.bs b λcs=>req (bj v&&(Nat.beq v.cells.length n&&Nat.ble (off+n) cs.length)) (fsq (setAt cs off v.cells) λcs=>JF s.bs b cs λbs=>K (s.wb bs))
theorem qX{n:Nat}{s:St}{b off:Nat}{v:AV}{K:St->Prop}(h:stK n s b off v K):cL n s (.ptr b off) v K:=by
 obtain⟨cs,h1,h2⟩:=h.out;obtain⟨h3,h4⟩:=af.1 h2;simp only[cL,h1];rw[My] at h4;have h5:=h4.out;rw[St.Lb] at h5;exact af.2 ⟨h3,h5⟩
theorem EJ{n:Nat}{s:St}{b off:Nat}{x:Opd}{K:St->Prop}(hx:stV s x=true)(h:stK n s b off (s.ev x) K):nj n s (.ptr b off) x K:=by
 have h2:=qX h;unfold nj;split
 .rename_i b' off' k he;cases he;split
  .rename_i z l hg;simp[stV,hg] at hx
  .exact h2
 .rename_i he;cases he
 .exact h2
structure sb(z:Nat)(s:St)(x y:AV)(K:AV->St->Prop):Prop where
 out:uZ z s x y K
structure ZerN(z:Nat)(s:St)(x y:AV)(K:AV->St->Prop):Prop where
 out:A4 z s x y K
structure OE(l:List AV)(K:Bool->Prop):Prop where
 out:(l≠[]->K false)/\(l=[]->∀b,K b)
structure MkN(z:Nat)(zx:AV)(s:St)(l c:AV)(K:AV->St->Prop):Prop where
 out:mkB z zx s l c K
structure EB(l:List (Int×AV))(n:Int)(ok:Bool)(z:AV)(K:AV->Prop):Prop where
 out:match nN l n with
  |some x=>cK x=true/\K (okR ok x true)
  |none=>K (okR ok z false)
structure MqN(l:List (Int×AV×Nat))(n:Int)(ok:Bool)(z:AV)(K:AV->Prop):Prop where
 out:match Hk l n with
  |some x=>cK x=true/\K (okR ok x true)
  |none=>K (okR ok z false)
structure OG(zx:AV)(s:St)(m k:AV)(K:AV->St->Prop):Prop where
 out:vA zx s m k K
structure OB(s:St)(m j v:AV)(K:St->Prop):Prop where
 out:vc s m j v K
structure OH(z:Nat)(vals:List AV)(s:St)(K:AV->St->Prop):Prop where
 out:Ot z vals s K
structure SsN(ks:List FK)(s:St)(m k v:AV)(K:St->Prop):Prop where
 out:IF ks s m k v K
structure SgN(ks:List FK)(ok:Bool)(z:AV)(s:St)(m k:AV)(K:AV->Prop):Prop where
 out:Mu ks ok z s m k K
def P4(x n:AV)(s:St)(d:Option Nat)(K:St->Prop):Prop:=
 match x,n with
 |.sl .full [],.int _ n=>dA (n=0) (K (s.put d (.sl .full [])))
 |_,_=>False
structure BN(bs:List Box)(b:Nat)(K:List (Int×AV)->Prop)(Kq:List (Int×AV×Nat)->Nat->Prop):Prop where
 out:(∃l,bs[b]? =some (.mp l)/\K l)\/(∃l c,bs[b]? =some (.mq l c)/\Kq l c)
theorem BN.of{bs:List Box}{b:Nat}{K:List (Int×AV)->Prop}{Kq:List (Int×AV×Nat)->Nat->Prop}{l:List (Int×AV)}(h:bs[b]? =some (.mp l))(k:K l):BN bs b K Kq:=⟨.inl ⟨l,h,k⟩⟩
theorem BN.q{bs:List Box}{b:Nat}{K:List (Int×AV)->Prop}{Kq:List (Int×AV×Nat)->Nat->Prop}{l:List (Int×AV×Nat)}{c:Nat}(h:bs[b]? =some (.mq l c))(k:Kq l c):BN bs b K Kq:=⟨.inr ⟨l,c,h,k⟩⟩
def OK(s:St)(m k v:AV)(K:St->Prop):Prop:=
 match m,k with
 |.mpt b,.int .i64 n=>match s with
  |⟨e,bs,lo⟩=>BN bs b (λl=>dA (cK v=true) (K ⟨e,bs.set b (.mp (ja l n v)),lo⟩)) λl c=>dA (cK v=true) (K ⟨e,bs.set b (.mq (rH l n v c) (xH l n c)),lo⟩)
 |_,_=>False
def OQ(ok:Bool)(z:AV)(s:St)(m k:AV)(K:AV->Prop):Prop:=
 match m,k with
 |.mpt b,.int .i64 n=>match s with
  |⟨_,bs,_⟩=>BN bs b (λl=>EB l n ok z K) λl _=>MqN l n ok z K
 |.nmp,.int .i64 _=>K (okR ok z false)
 |_,_=>False
def N1(s:St)(d:Option Nat)(K:St->Prop):Prop:=match s with
 |⟨e,bs,lo⟩=>K (St.pt ⟨e,bs++[.mp []],lo⟩ d (.mpt bs.length))
theorem N0{s:St}{d:Option Nat}{K:St->Prop}:N1 s d K=N2 s d K:=by cases s;simp only[N1,N2,St.sO]
def NZ(s:St)(d:Option Nat)(o:Opd)(K:St->Prop):Prop:=
 match o with
 |.c x=>K (s.pt d x)
 |.t t=>match s.get t with
  |.sl (.own z) l=>match d with
   |some d=>req (!(Nat.beq d t)) (K (((s.pt (some d) (.sl .no l)).pt (some t) (.sl .no l)).pt (some d) (.sl (.own z) l)))
   |none=>False
  |x=>K (s.pt d x)
theorem NY{s:St}{d:Option Nat}{o:Opd}{K:St->Prop}:NZ s d o K=vZ s d o K:=by
 unfold NZ vZ;simp only[St.sO];rfl
def PS(s:St)(d:Option Nat)(x:AV)(K:St->Prop):Prop:=match s with
 |⟨e,bs,lo⟩=>req (bj x) (fsq x.cells λcs=>K (St.pt ⟨e,bs++[.cells cs],lo⟩ d (.ptr bs.length 0)))
theorem Ou{s:St}{d:Option Nat}{x:AV}{K:St->Prop}:PS s d x K=KQ s x λr s'=>K (s'.put d r):=by
 cases s;simp only[PS,KQ,My,St.sO,St.jf]
def PM(e:Eff)(vals:List AV)(s:St)(d:Option Nat)(K:St->Prop):Prop:=
 match e,vals with
 |.uZ z,[x,y]=>sb z s x y λr s'=>K (s'.pt d r)
 |.A4 z,[x,y]=>ZerN z s x y λr s'=>K (s'.pt d r)
 |.slN,[x,n]=>P4 x n s d K
 |.mkM,[]=>N1 s d K
 |.mkM,[.int _ _]=>N1 s d K
 |.Bi,[m,k,v]=>OK s m k v K
 |.getM ok zx,[m,k]=>OQ ok zx s m k λr=>K (s.pt d r)
 |.mkB z zx,[l,c]=>MkN z zx s l c λr s'=>K (s'.pt d r)
 |.MM zx,[m,k]=>OG zx s m k λr s'=>K (s'.pt d r)
 |.Lm,[m,j,v]=>OB s m j v K
 |.bsR z,vals=>OH z vals s λr s'=>K (s'.pt d r)
 |.HB neg,[.sl _ l]=>OE l λb=>K (s.pt d (.bool (dT neg b)))
 |.Pa ks,[m,k,v]=>SsN ks s m k v K
 |.Mv ks ok zx,[m,k]=>SgN ks ok zx s m k λr=>K (s.pt d r)
 |_,_=>False
theorem PL{e:Eff}{vals:List AV}{s:St}{d:Option Nat}{K:St->Prop}(h:PM e vals s d K):uQ e vals s d K:=by
 unfold PM at h;simp only[St.sO,N0] at h;unfold uQ;split at h
 .exact h.out
 .exact h.out
 .unfold P4 at h;unfold G8;split at h
  .exact ⟨h.p,h.k⟩
  .exact h.elim
 .exact h
 .exact h
 .unfold OK at h;unfold w9;split at h
  .obtain ⟨e,bs,lo⟩:=s;rcases h.out with ⟨l,hb,h2⟩|⟨l,c,hb,h2⟩<;>simp only[hb]<;>exact⟨h2.p,h2.k⟩
  .exact h.elim
 .unfold OQ at h;unfold Ab;split at h
  .obtain ⟨e,bs,lo⟩:=s;rcases h.out with ⟨l,hb,h2⟩|⟨l,c,hb,h2⟩<;>simp only[hb]<;>exact h2.out
  .exact h
  .exact h.elim
 .exact h.out
 .exact h.out
 .exact h.out
 .exact h.out
 .exact h.out
 .exact h.out
 .exact h.out
 .exact h.elim
structure ElN(agg:Bool)(n:Nat)(s:St)(p:AV)(K:AV->Prop):Prop where
 out:cB agg n (s.rd p) K
structure EsN(n:Nat)(s:St)(b i z off:Nat)(v:AV)(K:St->Prop):Prop where
 out:nk n s b i z off v K
def RX.gp(P:Program)(fb dr:Bool)(rx:RX)(s:St)(d:Option Nat)(K:St->Prop):Prop:=
 match rx with
 |.call f args=>AP P dr s d (s.ev f) (evs s.ev args) K
 |.fh f args=>match s.ev f with
  |.fn (.func k) xs ys=>OF P k (AP P dr s d (.fn (.func k) xs ys) (evs s.ev args) K)
  |.yl b=>AP P dr s d (.yl b) (evs s.ev args) K
  |_=>False
 |.mov o=>match dr with
  |true=>K (s.pt d (s.ev o))
  |false=>NZ s d o K
 |.take t=>NZ s d (.t t) K
 |.box o=>PS s d (s.ev o) K
 |.load agg n o=>match s.ev o with
  |.elp b i z off=>ElN agg n s (.elp b i z off) λr=>K (s.pt d r)
  |p=>match fb with
   |true=>match dr with
    |true=>cB agg n (s.rd p) λr=>K (s.pt d r)
    |false=>fE agg n s d p K
   |false=>match p with
    |.ptr b off=>wm s.bs b λcs=>ldK agg n (cs.drop off) λr=>K (s.pt d r)
    |p=>match dr with
     |true=>cB agg n (s.rd p) λr=>K (s.pt d r)
     |false=>fE agg n s d p K
 |.store n p x=>match s.ev p with
  |.elp b i z off=>match dr with
   |true=>False
   |false=>EsN n s b i z off (s.ev x) K
  |q=>match fb with
   |true=>match dr with
    |true=>cL n s q (s.ev x) K
    |false=>nj n s q x K
   |false=>match q with
    |.ptr b off=>req (stV s x) (stK n s b off (s.ev x) K)
    |_=>False
 |.stn bnd n p x=>match dr with
  |true=>match s.ev p with
   |.ptr b off=>req (Nat.ble bnd b) (match fb with
    |true=>cL n s (.ptr b off) (s.ev x) K
    |false=>req (stV s x) (stK n s b off (s.ev x) K))
   |_=>False
  |false=>False
 |.append z o x=>PX z s o (s.ev x) λr s'=>K (s'.pt d r)
 |.eff e args=>match dr with
  |true=>False
  |false=>PM e (evs s.ev args) s d K
 |rx=>rx.pP s.ev s.rd λr=>K (s.pt d r)
theorem RX.nT{P:Program}{fb dr:Bool}{rx:RX}{s:St}{d:Option Nat}{K:St->Prop}(h:rx.gp P fb dr s d K):rx.run P dr s d K:=by
 unfold RX.gp at h;simp only[St.sO,NY,Ou] at h
 cases rx with
 |call f args=>cases dr<;>simpa only[RX.gp,RX.run,AO] using h
 |fh f args=>
  simp only[RX.gp] at h;simp only[RX.run];split at h
  .rename_i k xs ys he;rw[he];have h2:=h.k;rw[AO] at h2;exact⟨h.h,by cases dr<;>exact h2⟩
  .rename_i b he;rw[he];rw[AO] at h;exact⟨trivial,by cases dr<;>exact h⟩
  .exact h.elim
 |append z o x=>exact PW (K:=λr s'=>K (s'.put _ r)) h
 |mov|take|box=>exact h
 |eff e args=>
  cases dr with
  |true=>exact h.elim
  |false=>exact PL h
 |load agg n o=>
  simp only[RX.gp,RX.run] at h|-;split at h
  .rename_i b i z off he;rw[he];have h2:=h.out
   cases dr with
   |true=>exact h2
   |false=>cases agg<;>cases d<;>exact h2
  .cases fb with
   |true=>exact h
   |false=>
    simp only at h;split at h
    .rename_i b off he;obtain⟨cs,h1,h2⟩:=h.out;rw[he]
     cases dr with
     |true=>exact Cw h1 h2
     |false=>exact HK h1 h2
    .exact h
 |store n p x=>
  simp only[RX.gp,RX.run] at h|-;split at h
  .rename_i b i z off he;rw[he]
   cases dr with
   |true=>exact h.elim
   |false=>
    have h2:=h.out;rcases n with _|_|n<;>first|exact h2|(cases x<;>exact h2)
  .cases fb with
   |true=>exact h
   |false=>
    simp only at h;split at h
    .rename_i b off he;obtain⟨h1,h2⟩:=af.1 h;rw[he]
     cases dr with
     |true=>exact qX h2
     |false=>exact EJ h1 h2
    .exact h.elim
 |stn bnd n p x=>
  cases dr with
  |false=>exact h.elim
  |true=>
   simp only[RX.gp,RX.run,Bg] at h|-;split at h
   .rename_i b off he;rw[he];obtain⟨h1,h2⟩:=af.1 h;refine af.2 ⟨h1,?_⟩
    cases fb with
    |true=>exact h2
    |false=>exact qX (af.1 h2).2
   .exact h.elim
 |fD mx x y=>exact RX.vT (rx:=.fD mx x y) (ev:=s.ev) (rd:=s.rd) (K:=λr=>K (s.put _ r)) h
 |oE a b x i=>exact RX.vT (rx:=.oE a b x i) (ev:=s.ev) (rd:=s.rd) (K:=λr=>K (s.put _ r)) h
 |slc a b c d e=>exact RX.vT (rx:=.slc a b c d e) (ev:=s.ev) (rd:=s.rd) (K:=λr=>K (s.put _ r)) h
 |pick a b c=>exact RX.vT (rx:=.pick a b c) (ev:=s.ev) (rd:=s.rd) (K:=λr=>K (s.put _ r)) h
 |idx a b c=>exact RX.vT (rx:=.idx a b c) (ev:=s.ev) (rd:=s.rd) (K:=λr=>K (s.put _ r)) h
 |rS a b=>exact RX.vT (rx:=.rS a b) (ev:=s.ev) (rd:=s.rd) (K:=λr=>K (s.put _ r)) h
 |len a b=>exact RX.vT (rx:=.len a b) (ev:=s.ev) (rd:=s.rd) (K:=λr=>K (s.put _ r)) h
 |un a b=>exact RX.vT (rx:=.un a b) (ev:=s.ev) (rd:=s.rd) (K:=λr=>K (s.put _ r)) h
 |conv a b=>exact RX.vT (rx:=.conv a b) (ev:=s.ev) (rd:=s.rd) (K:=λr=>K (s.put _ r)) h
 |bin a b c=>exact RX.vT (rx:=.bin a b c) (ev:=s.ev) (rd:=s.rd) (K:=λr=>K (s.put _ r)) h
 |aE a b=>exact RX.vT (rx:=.aE a b) (ev:=s.ev) (rd:=s.rd) (K:=λr=>K (s.put _ r)) h
 |more g a=>exact I5 (K:=λr=>K (s.put _ r)) h
 |mk a b c d=>exact RX.vT (rx:=.mk a b c d) (ev:=s.ev) (rd:=s.rd) (K:=λr=>K (s.put _ r)) h
 |_=>exact h
def ROp.gp(P:Program)(fb dr:Bool)(r:ROp)(s:St)(K:St->Prop):Prop:=
 match r.guard with
 |none=>r.rx.gp P fb dr s r.dst K
 |some (g,want)=>match s.ev (.t g) with
  |.bool b=>match want with
   |true=>ak b (r.rx.gp P fb dr s r.dst K) (K (s.pt r.dst (.tup [])))
   |false=>ak b (K (s.pt r.dst (.tup []))) (r.rx.gp P fb dr s r.dst K)
  |.tup []=>K (s.pt r.dst (.tup []))
  |_=>False
theorem ROp.nT{P:Program}{fb dr:Bool}{r:ROp}{s:St}{K:St->Prop}(h:r.gp P fb dr s K):r.run P dr s K:=by
 unfold ROp.gp at h;simp only[St.sO] at h;unfold ROp.run;split at h
 .rename_i hg;rw[hg];exact RX.nT h
 .rename_i g want hg;rw[hg];simp only;split at h
  .rename_i b hb;rw[hb];simp only[gv]
   cases want with
   |true=>exact⟨λe=>RX.nT (h.t e),λe=>h.f (by cases b;rfl;exact absurd rfl e)⟩
   |false=>exact⟨λe=>RX.nT (h.f e),λe=>h.t (by cases b;exact absurd rfl e;rfl)⟩
  .rename_i hb;rw[hb];simp only[gv];exact⟨λe=>(by cases want<;>cases e),λ_=>h⟩
  .exact h.elim
def NP(P:Program)(fb:Bool)(dr:Bool):List ROp->St->(St->Prop)->Prop
 |[],s,K=>K s
 |r::rs,s,K=>r.gp P fb dr s λs'=>s'.fo fb λs'=>NP P fb dr rs s' K
theorem Hq{P:Program}{fb dr:Bool}:∀{rs:List ROp} {s:St} {K:St->Prop},NP P fb dr rs s K->xN P dr rs s K
 |[],_,_,h=>h
 |r::rs,s,K,h=>by
  refine ROp.mono (λs' hs'=>?_) (ROp.nT h);rw[St.dy] at hs';exact Hq hs'
def Lr(P:Program)(fb:Bool)(p:Nat):Nat->List ROp->St->(St->Prop)->Prop
 |_,[],s,K=>K s
 |i,r::rs,s,K=>r.gp P fb (!(Nat.beq i p)) s λs'=>s'.fo fb λs'=>Lr P fb p (i+1) rs s' K
theorem IE{P:Program}{fb:Bool}{p:Nat}:∀{rs:List ROp} {i:Nat} {s:St} {K:St->Prop},Lr P fb p i rs s K->wY P p i rs s K
 |[],_,_,_,h=>h
 |r::rs,i,s,K,h=>by
  refine ROp.mono (λs' hs'=>?_) (ROp.nT h);rw[St.dy] at hs';exact IE hs'
def vq(P:Program)(fb:Bool)(V:List Nat):List (Nat×ROp)->St->(St->Prop)->Prop
 |[],s,K=>K s
 |(c,r)::l,s,K=>match c with
  |0=>r.gp P fb true s λs'=>s'.fo fb λs'=>vq P fb V l s' K
  |1=>r.gp P fb false s λs'=>s'.fo fb λs'=>vq P fb V l s' K
  |_+2=>r.gp P fb false s λs'=>s'.fo fb λs'=>EA (HX s V) s.bs s'.bs (vq P fb V l s' K)
theorem nM{P:Program}{fb:Bool}{V:List Nat}:∀{q:List (Nat×ROp)} {s:St} {K:St->Prop},vq P fb V q s K->kg P V q s K
 |[],_,_,h=>h
 |(0,r)::l,s,K,h=>by
  refine ROp.mono (λs' hs'=>?_) (ROp.nT h);rw[St.dy] at hs'
  exact nM hs'
 |(1,r)::l,s,K,h=>by
  refine ROp.mono (λs' hs'=>?_) (ROp.nT h);rw[St.dy] at hs'
  exact nM hs'
 |(_+2,r)::l,s,K,h=>by
  refine ROp.mono (λs' hs'=>?_) (ROp.nT h);rw[St.dy] at hs';exact⟨hs'.h,nM hs'.k⟩
structure vM(p q:Prop):Prop where
 p:p
 q:q
structure ax(P:Program)(c:RC)(s:St)(Q:AX->St->Prop):Prop where
 out:(RC.loop c).wp P s Q
structure kC(P:Program)(g:Opd)(ps:List Nat)(a b:RC)(s:St)(Q:AX->St->Prop):Prop where
 out:(RC.range g ps a b).wp P s Q
def RC.gp(P:Program)(fb:Bool):RC->St->(AX->St->Prop)->Prop
 |.skip,s,Q=>Q .normal s
 |.reg dr keep ops,s,Q=>NP P fb dr ops s λs'=>(s'.kp keep).fo fb λs'=>Q .normal s'
 |.solo p keep ops,s,Q=>Lr P fb p 0 ops s λs'=>(s'.kp keep).fo fb λs'=>Q .normal s'
 |.mult keep ops,s,Q=>vq P fb (ko ops) ops s λs'=>(s'.kp keep).fo fb λs'=>Q .normal s'
 |.both keep qa q1 q2,s,Q=>vq P fb (bR qa q1 q2) qa s λsA=>vM (vq P fb (bR qa q1 q2) q1 sA λs'=>(s'.kp keep).fo fb λs'=>Q .normal s') (vq P fb (bR qa q1 q2) q2 sA λs'=>(s'.kp keep).fo fb λs'=>Q .normal s')
 |.seq a b,s,Q=>a.gp P fb s (oO (λs'=>b.gp P fb s' Q) Q)
 |.cond c a b,s,Q=>match s.ev c with
  |.bool t=>ak t (a.gp P fb s Q) (b.gp P fb s Q)
  |_=>False
 |.block id c,s,Q=>c.gp P fb s (AU id Q)
 |.loop c,s,Q=>ax P c s Q
 |.range g ps a b,s,Q=>kC P g ps a b s Q
 |.exit id,s,Q=>Q (.exit id) s
 |.ret,s,Q=>Q .ret s
theorem RC.kv{P:Program}{fb:Bool}:∀{c:RC} {s:St} {Q:AX->St->Prop},c.gp P fb s Q->c.wp P s Q
 |.skip,_,_,h=>h
 |.reg dr keep ops,s,Q,h=>gd (λs' hs'=>by rwa [St.dy] at hs') (Hq h)
 |.solo p keep ops,s,Q,h=>nq (λs' hs'=>by rwa [St.dy] at hs') (IE h)
 |.mult keep ops,s,Q,h=>bq (λs' hs'=>by rwa [St.dy] at hs') (nM h)
 |.both keep qa q1 q2,s,Q,h=>bq (λsA hs'=>⟨bq (λs' hs'=>by rwa [St.dy] at hs') (nM hs'.p),bq (λs' hs'=>by rwa [St.dy] at hs') (nM hs'.q)⟩) (nM h)
 |.seq a b,s,Q,h=>RC.wp_mono (c:=a) (λx s' hx=>qV (λs2 h2=>RC.kv (c:=b) h2) x s' hx) (RC.kv (c:=a) h)
 |.cond c a b,s,Q,h=>by
  simp only[RC.gp,RC.wp] at h|-;split at h
  .rename_i t ht;rw[ht];exact⟨λe=>RC.kv (c:=a) (h.t e),λe=>RC.kv (c:=b) (h.f e)⟩
  .exact h.elim
 |.block id c,s,Q,h=>RC.kv (c:=c) h
 |.loop c,s,Q,h=>h.out
 |.range g ps a b,s,Q,h=>h.out
 |.exit id,_,_,h=>h
 |.ret,_,_,h=>h
def rL:AV->AV
 |.tup cs=>.tup (cs.map AV.norm)
 |x=>x.norm
theorem RV.rL{M:Hp}{σ:Nat->Nat}{n:Nat}{x:AV}{v:Value}(h:RV M σ n x v):RV M σ n (rL x) v:=by
 cases x with
 |tup cs=>
  obtain⟨vs,rfl,hl,hv⟩:=h.wD;refine .tup _ vs (by simpa using hl) λj hj v hjv=>?_
  simp only[zF] at hj;rw[ZD]
  exact(hv j hj v hjv).norm
 |_=>exact h.norm
theorem H8(x:AV):AM.rL x.az=AM.rL x:=by
 cases x with
 |sl o l=>cases o<;>rfl
 |_=>rfl
theorem Sem.nrm{P:Program}{f:FuncId}{vals:List AV}{bs:List Box}{Q:AV->List Box->Prop}(h:Sem P f vals bs λr b=>Q r b\/Q (rL r) b):Sem P f vals bs Q:=by
 intro E G a0 w args lo h1 h2 h3;refine(h E G a0 w args lo h1 h2 h3).mono ?_;rintro e w' ⟨v,r,bs',G',rfl,q,hs⟩;rcases q with q|q
 .exact ⟨v,r,bs',G',rfl,q,hs⟩
 .have hat:(⟨[(0,r)],bs',bs.length⟩:St).at (.sl 0)=some r:=rfl;have hv:=hs.val _ _ hat
  have:=hs.upd (q:=.sl 0) hat (x:=rL r) (by
   have:=hv.rL
   rwa [H8] at this)
  exact⟨v,rL r,bs',_,rfl,q,this⟩
structure ae(s:St)(rs:List dc)(Q:AV->List Box->Prop):Prop where
 out:∃s',aF s s'/\qp s' rs λr b=>Q r b\/Q (rL r) b
theorem tS{s:St}{rs:List dc}{Q Q':AV->List Box->Prop}(hq:∀r b,Q r b->Q' r b)(h:qp s rs Q):qp s rs Q':=by
 have hV:∀{r:dc} {K K':AV->Prop},(∀x,K x->K' x)->Hg s r K->Hg s r K':=λ{r} {K K'} hk h=>by
  cases r with
  |slot t=>exact hk _ h
  |cell t agg n=>
   simp only[Hg,cB] at h|-;split at h
   .split at h
    .obtain ⟨h1,h2⟩:=af.1 h;exact af.2 ⟨h1,hk _ h2⟩
    .split at h
     .exact hk _ h
     .exact h
   .exact h
 have hVs:∀{rs:List dc} {K K':List AV->Prop},(∀x,K x->K' x)->EY s rs K->EY s rs K':=λ{rs}=>by
  induction rs with
  |nil=>exact λhk h=>hk _ h
  |cons r rs ih=>exact λhk h=>hV (λx hx=>ih (λxs hxs=>hk _ hxs) hx) h
 unfold qp at h|-;split at h
 .exact hq _ _ h
 .exact hV (λx hx=>hq _ _ hx) h
 .exact hVs (λx hx=>hq _ _ hx) h
theorem ae.nrm{s:St}{rs:List dc}{Q:AV->List Box->Prop}(h:qp s rs λr b=>fv (rL r) λx=>Q x b):ae s rs Q:=⟨s,aF.refl s,tS (λr b q=>.inr (by rwa [CE] at q)) h⟩
theorem ae.of{s:St}{rs:List dc}{Q:AV->List Box->Prop}(h:OC s rs Q):ae s rs Q:=by
 obtain⟨s',h1,h2⟩:=h.out;exact⟨s',h1,tS (λr b q=>.inl q) h2⟩
theorem ae.cut{s:St}{rs:List dc}{Q:AV->List Box->Prop}(n:Nat)(hlo:s.lo<=n)(hn:n<=s.bs.length)(h1:mQ n s.env=true)(h2:ai n (s.bs.take n)=true)(h:ae ⟨s.env,s.bs.take n,s.lo⟩ rs Q):ae s rs Q:=by
 obtain⟨s',h3,h4⟩:=h.out;exact⟨s',(aF.cut s n hlo hn h1 h2).trans h3,h4⟩
def P7(rs:List dc)(Q:AV->List Box->Prop):AX->St->Prop
 |.normal,s=>ae s rs Q
 |.ret,s=>ae s rs Q
 |_,_=>False
theorem Pd{P:Program}{fb:Bool}{c:RC}{vals:List AV}{bs:List Box}{rs:List dc}{Q:AV->List Box->Prop}(h:(⟨params 0 vals,bs,bs.length⟩:St).fo fb λs=>c.gp P fb s (P7 rs Q)):c.wp P ⟨params 0 vals,bs,bs.length⟩ λx s=>∃s',aF s s'/\JY rs (λr b=>Q r b\/Q (rL r) b) x s':=by
 rw[St.dy] at h;refine RC.wp_mono (λx s hx=>?_) (RC.kv h)
 cases x with
 |normal=>exact hx.out
 |ret=>exact hx.out
 |exit id=>exact hx.elim
inductive WkV:AV->AV->Prop
 |eq {x y:AV} (h:x=y):WkV x y
 |aX {z:Nat} {l m:List AV} (h:Szs z l) (e:l=m):WkV (.sl .full l) (.sl (.own z) m)
 |norm (x:AV):WkV x x.norm
theorem aF.ext{s t:St}(h:∀k,au t.env k=au s.env k)(hb:t.bs=s.bs)(hl:t.lo=s.lo):aF s t:=λE G a w hs=>by
 obtain⟨e,bs,lo⟩:=s;obtain⟨e',bs',lo'⟩:=t;simp only at h hb hl;subst hb hl
 have hat:∀p,(⟨e',bs',lo'⟩:St).at p=(⟨e,bs',lo'⟩:St).at p:=λp=>by
  cases p with
  |sl t=>exact h t
  |bx b j=>rfl
 exact⟨G,hs.fr,hs.ok,hs.nt,λp x hp=>hs.val p x (by rw[<-hat];exact hp),λb j x hp=>hs.one b j x (by rw[<-hat];exact hp),hs.box,hs.bmem,hs.inj,λp z l hp=>hs.own p z l (by rw[<-hat];exact hp),hs.clinj,hs.clbox,hs.cllt,hs.lo,hs.len,hs.sig,hs.sp⟩
theorem aF.slot{s:St}{k:Nat}{x y:AV}(h0:au s.env k=some x)(h:WkV x y):aF s (s.put (some k) y):=by
 cases h with
 |eq h=>
  subst h;refine aF.ext (λj=>?_) rfl rfl;simp only[St.put,eX];split
  .rename_i e;rw[e,h0]
  .rfl
 |aX hz e=>subst e;exact aF.aX s k _ _ h0 hz.out
 |norm=>exact aF.norm s k x h0
theorem ky:∀(pre r:List (Nat×AV)) (k:Nat),au (pre++r) k=match au pre k with|some x=>some x|none=>au r k
 |[],r,k=>rfl
 |(t,x)::pre,r,k=>by
  simp only[ze,au]
  cases Nat.beq t k with
  |true=>rfl
  |false=>exact ky pre r k
theorem aF.at_{pre r:List (Nat×AV)}{bs:List Box}{lo k:Nat}{x y:AV}(h:WkV x y):aF ⟨pre++(k,x)::r,bs,lo⟩ ⟨pre++(k,y)::r,bs,lo⟩:=by
 cases hp:au pre k with
 |some z=>
  refine aF.ext (λj=>?_) rfl rfl;simp only[ky,au]
  by_cases e:k=j
  .subst e;rw[hp]
  .rw [da e]
 |none=>
  refine(aF.slot (s:=⟨pre++(k,x)::r,bs,lo⟩) (k:=k) (x:=x) (by simp only[ky,hp,au,Nat.beq_refl]) h).trans (aF.ext (λj=>?_) rfl rfl)
  simp only[St.put,eX,ky,au]
  by_cases e:k=j
  .subst e;rw[hp];simp
  .rw [if_neg (λh=>e h.symm),da e]
theorem aF.OV{pre r:List (Nat×AV)}{bs:List Box}{lo k:Nat}{x:AV}(hp:∀t∈pre.map (·.1),t≠k)(hr:∀t∈r.map (·.1),t≠k):aF ⟨pre++(k,x)::r,bs,lo⟩ ⟨pre++r,bs,lo⟩:=by
 have hno:∀l:List (Nat×AV),(∀t∈l.map (·.1),t≠k)->au l k=none:=λl=>by
  induction l with
  |nil=>exact λ_=>rfl
  |cons q l ih=>
   obtain⟨t,y⟩:=q;intro h;simp only[au];rw[da (h t (by simp))]
   exact ih λt ht=>h t (by simp only[zP,zI];exact .inr ht)
 refine(aF.keep _ ((pre++r).map (·.1))).trans (aF.ext (λj=>?_) rfl rfl)
 have hk:∀(f:Nat->Bool) (e:List (Nat×AV)),au (fI f e) j=if f j then au e j else none:=λf e=>by
  induction e with
  |nil=>simp[fI,au]
  |cons q e ih=>
   obtain⟨t,y⟩:=q;simp only[fI]
   cases hf:f t with
   |true=>
    simp only[au]
    cases hb:Nat.beq t j with
    |true=>have:=zO hb;subst this;simp[hf]
    |false=>simp only;exact ih
   |false=>
    simp only[au]
    cases hb:Nat.beq t j with
    |true=>have:=zO hb;subst this;rw[ih];simp[hf]
    |false=>simp only;exact ih
 simp only[St.keep,hk]
 have hmem:∀(l:List Nat),mem j l=true↔j∈l:=λl=>by
  induction l with
  |nil=>simp[mem]
  |cons y l ih=>
   simp only[mem]
   cases hb:Nat.beq y j with
   |true=>have:=zO hb;subst this;simp
   |false=>
    simp only[ih,zI];exact⟨.inr,λh=>h.elim (λe=>by subst e;simp at hb) id⟩
 have hin:∀(l:List (Nat×AV)),j∉l.map (·.1)->au l j=none:=λl=>by
  induction l with
  |nil=>exact λ_=>rfl
  |cons q l ih=>
   obtain⟨t,y⟩:=q;intro h;simp only[zP,zI,not_or] at h;simp only[au];rw[da (λe=>h.1 e.symm)];exact ih h.2
 by_cases hj:j∈(pre++r).map (·.1)
 .rw [if_pos ((hmem _).2 hj)];simp only[ky,au]
  by_cases e:k=j
  .subst e;rw[zu,zY] at hj;rcases hj with hj|hj
   .exact absurd rfl (hp _ hj)
   .exact absurd rfl (hr _ hj)
  .rw [da e]
 .rw [if_neg (λh=>hj ((hmem _).1 h)),hin _ hj]
structure WkN(x y:AV)(K:Prop):Prop where
 w:WkV x y
 k:K
theorem WkN.eq{x y:AV}{K:Prop}(h:x=y)(k:K):WkN x y K:=⟨.eq h,k⟩
theorem WkN.int{i:IntKind}{x y:Int}{K:Prop}(h:x=y)(k:K):WkN (.int i x) (.int i y) K:=⟨.eq (by rw[h]),k⟩
theorem WkN.bool{x y:Bool}{K:Prop}(h:x=y)(k:K):WkN (.bool x) (.bool y) K:=⟨.eq (by rw[h]),k⟩
theorem WkN.sl{o:Cap}{l m:List AV}{K:Prop}(h:l=m)(k:K):WkN (.sl o l) (.sl o m) K:=⟨.eq (by rw[h]),k⟩
theorem WkN.norm{x y:AV}{K:Prop}(h:x.norm=y)(k:K):WkN x y K:=⟨h▸.norm x,k⟩
theorem WkN.aX{z:Nat}{l m:List AV}{K:Prop}(h:Szs z l)(e:l=m)(k:K):WkN (.sl .full l) (.sl (.own z) m) K:=⟨.aX h e,k⟩
def xY(k:Nat):List (Nat×AV)->Bool
 |[]=>true
 |(t,_)::r=>match Nat.beq t k with
  |true=>false
  |false=>xY k r
def wkE:Nat->List (Nat×AV)->List (Nat×AV)->List (Nat×AV)->Prop
 |0,_,_,_=>False
 |_+1,_,[],[]=>True
 |n+1,pre,(k,x)::r,(k',y)::r'=>match Nat.beq k k' with
  |true=>WkN x y (wkE n (pre++[(k',y)]) r r')
  |false=>req (xY k pre&&xY k r) (wkE n pre r ((k',y)::r'))
 |n+1,pre,(k,_)::r,[]=>req (xY k pre&&xY k r) (wkE n pre r [])
 |_+1,_,[],_::_=>False
theorem mL{k:Nat}:∀{l:List (Nat×AV)},xY k l=true->∀t∈l.map (·.1),t≠k
 |[],_,_,h=>by cases h
 |(u,_)::r,h,t,ht=>by
  simp only[xY] at h;split at h
  .cases h
  .rename_i hb;simp only[zP,zI] at ht;rcases ht with rfl|ht
   .intro e;subst e;simp at hb
   .exact mL h t ht
theorem oK{bs:List Box}{lo:Nat}:∀{n:Nat} {pre e e':List (Nat×AV)},wkE n pre e e'->aF ⟨pre++e,bs,lo⟩ ⟨pre++e',bs,lo⟩
 |0,_,_,_,h=>h.elim
 |_+1,_,[],[],_=>aF.refl _
 |n+1,pre,(k,x)::r,(k',y)::r',h=>by
  simp only[wkE] at h;split at h
  .rename_i hb;have:=zO hb;subst this;have:=oK (bs:=bs) (lo:=lo) h.k;simp only[zg,List.singleton_append] at this;exact(aF.at_ h.w).trans this
  .obtain ⟨h1,h2⟩:=af.1 h;simp only[zD] at h1
   exact(aF.OV (mL h1.1) (mL h1.2)).trans (oK h2)
 |n+1,pre,(k,x)::r,[],h=>by
  simp only[wkE] at h;obtain⟨h1,h2⟩:=af.1 h;simp only[zD] at h1
  exact(aF.OV (mL h1.1) (mL h1.2)).trans (oK h2)
 |_+1,_,[],_::_,h=>h.elim
structure BxN(p K:Prop):Prop where
 p:p
 k:K
def eqC:List AV->List AV->Prop->Prop
 |[],[],K=>K
 |x::xs,y::ys,K=>BxN (x=y) (eqC xs ys K)
 |_,_,_=>False
theorem Ji:∀{xs ys:List AV} {K:Prop},eqC xs ys K->xs=ys/\K
 |[],[],_,h=>⟨rfl,h⟩
 |x::xs,y::ys,K,h=>by
  obtain⟨h1,h2⟩:=Ji h.k
  exact⟨by rw[h.p,h1],h2⟩
 |[],_::_,_,h=>h.elim
 |_::_,[],_,h=>h.elim
def eqB:List Box->List Box->Prop->Prop
 |[],[],K=>K
 |.cells cs::r,.cells ds::r',K=>eqC cs ds (eqB r r' K)
 |.dead::r,.dead::r',K=>eqB r r' K
 |.loop x::r,.loop y::r',K=>BxN (x=y) (eqB r r' K)
 |.row x::r,.row y::r',K=>BxN (x=y) (eqB r r' K)
 |.mp x::r,.mp y::r',K=>BxN (x=y) (eqB r r' K)
 |.mq x c::r,.mq y d::r',K=>BxN (x=y) (BxN (c=d) (eqB r r' K))
 |_,_,_=>False
theorem kU:∀{xs ys:List Box} {K:Prop},eqB xs ys K->xs=ys/\K
 |[],[],_,h=>⟨rfl,h⟩
 |.cells cs::r,.cells ds::r',K,h=>by
  obtain⟨h1,h2⟩:=Ji h;obtain⟨h3,h4⟩:=kU h2
  exact⟨by rw[h1,h3],h4⟩
 |.dead::r,.dead::r',K,h=>by
  obtain⟨h3,h4⟩:=kU (xs:=r) (ys:=r') h
  exact⟨by rw[h3],h4⟩
 |.loop x::r,.loop y::r',K,h=>by
  obtain⟨h3,h4⟩:=kU h.k
  exact⟨by rw[h.p,h3],h4⟩
 |.row x::r,.row y::r',K,h=>by
  obtain⟨h3,h4⟩:=kU h.k
  exact⟨by rw[h.p,h3],h4⟩
 |.mp x::r,.mp y::r',K,h=>by
  obtain⟨h3,h4⟩:=kU h.k
  exact⟨by rw[h.p,h3],h4⟩
 |.mq x c::r,.mq y d::r',K,h=>by
  obtain⟨h3,h4⟩:=kU h.k.k
  exact⟨by rw[h.p,h.k.p,h3],h4⟩
 |[],_::_,_,h=>h.elim
 |.cells _::_,[],_,h=>h.elim
 |.cells _::_,.mq _ _::_,_,h=>h.elim
 |.mq _ _::_,.cells _::_,_,h=>h.elim
 |.cells _::_,.dead::_,_,h=>h.elim
 |.cells _::_,.loop _::_,_,h=>h.elim
 |.cells _::_,.row _::_,_,h=>h.elim
 |.cells _::_,.mp _::_,_,h=>h.elim
 |.dead::_,[],_,h=>h.elim
 |.dead::_,.mq _ _::_,_,h=>h.elim
 |.mq _ _::_,.dead::_,_,h=>h.elim
 |.dead::_,.cells _::_,_,h=>h.elim
 |.dead::_,.loop _::_,_,h=>h.elim
 |.dead::_,.row _::_,_,h=>h.elim
 |.dead::_,.mp _::_,_,h=>h.elim
 |.loop _::_,[],_,h=>h.elim
 |.loop _::_,.mq _ _::_,_,h=>h.elim
 |.mq _ _::_,.loop _::_,_,h=>h.elim
 |.loop _::_,.cells _::_,_,h=>h.elim
 |.loop _::_,.dead::_,_,h=>h.elim
 |.loop _::_,.row _::_,_,h=>h.elim
 |.loop _::_,.mp _::_,_,h=>h.elim
 |.row _::_,[],_,h=>h.elim
 |.row _::_,.mq _ _::_,_,h=>h.elim
 |.mq _ _::_,.row _::_,_,h=>h.elim
 |.row _::_,.cells _::_,_,h=>h.elim
 |.row _::_,.dead::_,_,h=>h.elim
 |.row _::_,.loop _::_,_,h=>h.elim
 |.row _::_,.mp _::_,_,h=>h.elim
 |.mp _::_,[],_,h=>h.elim
 |.mq _ _::_,[],_,h=>h.elim
 |.mp _::_,.mq _ _::_,_,h=>h.elim
 |.mq _ _::_,.mp _::_,_,h=>h.elim
 |.mp _::_,.cells _::_,_,h=>h.elim
 |.mp _::_,.dead::_,_,h=>h.elim
 |.mp _::_,.loop _::_,_,h=>h.elim
 |.mp _::_,.row _::_,_,h=>h.elim
theorem ah.at_{s t:St}(h:H4 true t.env λe=>fBs t.bs λb=>wkE 100 [] s.env e/\eqB s.bs b True)(hl:s.lo=t.lo):ah s t:=by
 rw[tz,l6] at h;obtain⟨e,bs,lo⟩:=s;obtain⟨e',bs',lo'⟩:=t;simp only at h hl;subst hl;obtain⟨h2,_⟩:=kU h.2;subst h2;exact⟨oK h.1⟩
theorem ah.atC(n:Nat){s t:St}(h:H4 true t.env λe=>fBs t.bs λb=>wkE 100 [] (s.keep (e.map (·.1))).env e/\eqB (s.bs.take n) b True)(hl:s.lo=t.lo)(hlo:Nat.ble s.lo n=true)(hn:Nat.ble n s.bs.length=true)(h1:mQ n (s.keep (t.env.map (·.1))).env=true)(h2:ai n (s.bs.take n)=true):ah s t:=by
 rw[tz,l6] at h;refine⟨(aF.keep s (t.env.map (·.1))).trans ((aF.cut (s.keep (t.env.map (·.1))) n (zr hlo) (zr hn) h1 h2).trans ?_)⟩;refine(ah.at_ (s:=⟨(s.keep (t.env.map (·.1))).env,s.bs.take n,s.lo⟩) ?_ hl).out;rw[tz,l6];exact h
theorem ah.atS{s t:St}(h:wkE 100 [] s.env t.env)(hb:s.bs=t.bs)(hl:s.lo=t.lo):ah s t:=by
 obtain⟨e,bs,lo⟩:=s;obtain⟨e',bs',lo'⟩:=t;simp only at h hb hl;subst hb hl;exact⟨oK h⟩
def St.dO(s:St):List (Nat×AV)->St
 |[]=>s
 |(t,x)::r=>(s.put (some t) x).dO r
theorem ah.wg{s t:St}{own:List Box}{x:Box}(hb:s.bs=own++[x])(hlo:s.lo<=own.length)(h1:mQ own.length s.env=true)(h2:ai own.length own=true)(h:ah ⟨s.env,own,s.lo⟩ t):ah s t:=
 ⟨(aF.cut s own.length hlo (by rw[hb];simp) h1 (by rw[hb];simpa using h2)).trans (by
  have:s.bs.take own.length=own:=by rw[hb];simp
  rw[this];exact h.out)⟩
theorem ae.wg{s:St}{rs:List dc}{Q:AV->List Box->Prop}{own:List Box}{x:Box}(hb:s.bs=own++[x])(hlo:s.lo<=own.length)(h1:mQ own.length s.env=true)(h2:ai own.length own=true)(h:ae ⟨s.env,own,s.lo⟩ rs Q):ae s rs Q:=by
 refine ae.cut own.length hlo (by rw[hb];simp) h1 (by rw[hb];simpa using h2) ?_
 have:s.bs.take own.length=own:=by rw[hb];simp
 rw[this];exact h
theorem kC.byW{P:Program}{g:Opd}{ps:List Nat}{a b:RC}{s:St}{Q:AX->St->Prop}(s0:St){gf:FuncId}{lb:List AV}{xs:List (List AV)}(hw:ah s s0)(hg:s0.ev g=.fn (.func gf) [] lb)(hbd:eT P gf=true)(hi:Bb P gf (lb.map AV.norm) xs)(hlen:∀y∈xs,y.length=ps.length)
  (I:List (List AV)->List Box->Prop) (Ix:AX->List Box->Prop) (hI2:∀pre own,I pre own->ai own.length own=true) (hIx2:∀e own,Ix e own->ai own.length own=true) (hy:∀y∈xs,y.all (λv=>v.lt 0)=true) (h0:I [] s0.bs) (hI:∀pre own,I pre own->own.length=s0.bs.length) (hIx:∀e own,Ix e own->own.length=s0.bs.length)
  (round:∀x pre y rest own,pre++y::rest=xs->I pre own->a.wp P ⟨lF (fJ s0.env) ps y,own++[.loop x],own.length+1⟩ λe s1=>match e with|.normal=>ag s1.bs s0.bs.length=some x/\b.wp P ⟨s1.env,s1.bs.set s0.bs.length .dead,s1.lo⟩ λe s3=>PZ s3 e (λe own=>match e with|.normal=>I (pre++[y]) own|e=>Ix e own)|_=>False)
  (done:∀own,I xs own->(⟨s0.env,own++[.dead],s0.lo⟩:St).fo true λs'=>Q .normal s') (stop:∀e own,Ix e own->(⟨s0.env,own++[.dead],s0.lo⟩:St).fo true λs'=>Q e s'):
  kC P g ps a b s Q:=by
 refine⟨s0,hw.out,?_⟩;rw[hg];refine⟨hbd,λx hx=>?_⟩;have hbl:∀own (y:LB),own.length=s0.bs.length->ag (own++[.loop y]) s0.bs.length=some y:=λown y h=>by rw[fM,if_pos h.symm]
 have hS:=hi.use s0.bs.length (s0.bs++[Box.loop x]) (λpre bs=>∃own,I pre own/\bs=own++[Box.loop x])
  (λbs=>∃e own,Ix e own/\((e=.ret/\bs=own++[Box.loop (x.done .ret)])\/∃id,e=.exit id/\bs=own++[Box.loop (x.done (.exit id))])) (by simp) ?_ ?_ (λy hyx v hv=>Mh (zJ _) (zS.1 (hy y hyx) v hv)) ?_ ⟨_,h0,rfl⟩
 refine⟨_,hS,?_⟩
 rotate_left 3
 .rintro pre y rest bs hxs ⟨own,hown,rfl⟩;have hl:=hI pre own hown;refine hx y _ _ (hbl own x hl) (hlen y (by rw[<-hxs];simp)) ?_
  have hr:=round x pre y rest own hxs hown;unfold LI;simp only[zC,zX,ZQ,ZI];refine RC.wp_mono (λe s1 h1=>?_) hr
  cases e with
  |ret=>exact h1
  |exit id=>exact h1
  |normal=>
   obtain⟨h2,h3⟩:=h1;refine⟨h2,?_⟩;refine RC.wp_mono (λe s3 h4=>?_) h3;obtain⟨s4,own',hw4,hb4,hJ⟩:=h4.out;refine⟨s4,hw4,?_⟩
   cases e with
   |normal=>
    simp only[xk,hb4]
    exact .inl ⟨trivial,own',hJ,jT (hI _ _ hJ) _ _⟩
   |ret=>
    simp only[xk,hb4]
    exact .inr ⟨trivial,.ret,own',hJ,.inl ⟨rfl,jT (hIx _ _ hJ) _ _⟩⟩
   |exit id=>
    simp only[xk,hb4];exact .inr ⟨trivial,.exit id,own',hJ,.inr ⟨id,rfl,jT (hIx _ _ hJ) _ _⟩⟩
 .rintro r bs' (⟨own,hown,rfl⟩|⟨e,own,hown,hb⟩)
  .have hl:=hI _ own hown;refine .inl ⟨hbl own x hl,?_⟩;rw[jT hl];have:=done own hown
   rwa [St.dy] at this
  .have hl:=hIx _ own hown;have hs:=stop e own hown;rw[St.dy] at hs;rcases hb with ⟨rfl,rfl⟩|⟨id,rfl,rfl⟩
   .exact .inr (.inl ⟨hbl own _ hl,by rw[jT hl];exact hs⟩)
   .exact .inr (.inr ⟨id,hbl own _ hl,by rw[jT hl];exact hs⟩)
 .rintro pre bs' ⟨own,hown,rfl⟩;have hl:=hI pre own hown;exact⟨by simp[hl],by rw[zC,zU,<-hl];exact n3 (hI2 pre own hown) x⟩
 .rintro bs' ⟨e,own,hown,hb⟩;have hl:=hIx e own hown;rcases hb with ⟨_,rfl⟩|⟨id,_,rfl⟩
  .exact ⟨by simp[hl],by rw[zC,zU,<-hl];exact n3 (hIx2 e own hown) _⟩
  .exact ⟨by simp[hl],by rw[zC,zU,<-hl];exact n3 (hIx2 e own hown) _⟩
structure OI(bs:List Box)(n:Nat)(x:LB)(K:Prop):Prop where
 h:ag bs n=some x
 k:K
def Qu(x:LB)(n:Nat)(K:St->Prop):AX->St->Prop
 |.normal,s=>OI s.bs n x ((⟨s.env,s.bs.set n .dead,s.lo⟩:St).fo true K)
 |_,_=>False
structure r9(s:St)(own:List Box):Prop where
 out:∃lo,aF s ⟨[],own++[.dead],lo⟩
theorem r9.by{s:St}{own:List Box}(h:eqB (s.bs.take (own.length+1)) (own++[.dead]) True)(hlo:Nat.ble s.lo (own.length+1)=true)(hn:Nat.ble (own.length+1) s.bs.length=true)(h2:ai (own.length+1) (own++[.dead])=true):r9 s own:=by
 obtain⟨h3,_⟩:=kU h;refine⟨s.lo,?_⟩
 have hk:(s.keep [])=⟨[],s.bs,s.lo⟩:=by
  have:∀e:List (Nat×AV),fI (λk=>mem k []) e=[]:=λe=>by
   induction e with
   |nil=>rfl
   |cons p e ih=>obtain⟨k,v⟩:=p;simpa[fI,mem] using ih
  simp only[St.keep,this]
 refine(aF.keep s []).trans ?_;rw[hk];have:=aF.cut ⟨[],s.bs,s.lo⟩ (own.length+1) (zr hlo) (zr hn) rfl (by rw[h3];exact h2)
 rw[h3] at this;exact this
def Pf(own:List Box)(Ix:AX->St->Prop):AX->St->Prop
 |.normal,s=>r9 s own
 |e,s=>Ix e s
theorem kC.each{α:Type}{P:Program}{g:Opd}{ps:List Nat}{a b:RC}{s:St}{Q:AX->St->Prop}(enc:α->List AV)(l:List α)(s0:St)(bx:List α->List Box){gf:FuncId}{lb:List AV}(hi:Bb P gf (lb.map AV.norm) (l.map enc))(hbd:eT P gf=true)(hw:ah s s0)(hg:s0.ev g=.fn (.func gf) [] lb)
  (hlen:∀y,(enc y).length=ps.length) (hy:∀y,(enc y).all (λv=>v.lt 0)=true) (h0:s0.bs=bx []) (hb:∀pre,(bx pre).length=s0.bs.length/\ai s0.bs.length (bx pre)=true)
  (round:∀x pre y rest,pre++y::rest=l->(⟨lF (fJ s0.env) ps (enc y),bx pre++[.loop x],s0.bs.length+1⟩:St).fo true λs1=>a.gp P true s1 (Qu x s0.bs.length λs2=>b.gp P true s2 (Pf (bx (pre++[y])) λ_ _=>False)))
  (done:(⟨s0.env,bx l++[.dead],s0.lo⟩:St).fo true λs'=>Q .normal s'):kC P g ps a b s Q:=by
 refine kC.byW s0 hw hg hbd hi (λy hyl=>?_) (λpre own=>∃p q,p++q=l/\pre=p.map enc/\own=bx p) (λ_ _=>False) (λpre own h=>?_) (λ_ _ h=>h.elim) (λy hyl=>?_) ⟨[],l,rfl,rfl,h0⟩ (λpre own h=>?_) (λ_ _ h=>h.elim) ?_ (λown h=>?_) (λ_ _ h=>h.elim)
 .obtain ⟨z,_,rfl⟩:=zk.1 hyl;exact hlen z
 .obtain ⟨p,q,_,_,rfl⟩:=h;rw[(hb p).1];exact(hb p).2
 .obtain ⟨z,_,rfl⟩:=zk.1 hyl;exact hy z
 .obtain ⟨p,q,_,_,rfl⟩:=h;exact(hb p).1
 .rintro x pre y rest own hxs ⟨p,q,hpq,rfl,rfl⟩
  have hq:q≠[]:=λe=>by
   subst e;rw[zy] at hpq;subst hpq;have:=congrArg List.length hxs;simp at this
  obtain⟨z,q',rfl⟩:=List.exists_cons_of_ne_nil hq
  have hyz:y=enc z:=by
   rw[<-hpq,zu,zP] at hxs;have:=List.append_cancel_left hxs;exact(List.cons.inj this).1
  subst hyz;have hr:=round x p z q' hpq;rw[St.dy] at hr;rw[(hb p).1];refine RC.wp_mono (λe s1 h1=>?_) (RC.kv hr)
  cases e with
  |normal=>
   refine⟨h1.h,?_⟩;have h3:=h1.k;rw[St.dy] at h3;refine RC.wp_mono (λe s3 h4=>?_) (RC.kv h3)
   cases e with
   |normal=>
    obtain⟨lo,h5⟩:=h4.out
    exact⟨_,_,h5,rfl,p++[z],q',by simpa using hpq,by simp,rfl⟩
   |ret=>exact h4.elim
   |exit id=>exact h4.elim
  |ret=>exact h1.elim
  |exit id=>exact h1.elim
 .obtain ⟨p,q,hpq,he,rfl⟩:=h
  have hq:q=[]:=by
   have:=congrArg List.length he;rw[<-hpq] at this;simpa using this
  subst hq;rw[zy] at hpq;subst hpq;exact done
theorem ax.by{P:Program}{fb:Bool}{c:RC}{s:St}{Q:AX->St->Prop}{α:Type}(up:St->α->St)(inv:α->Prop)(mu:α->Nat)(a0:α)(h0:inv a0)(hw:ah s (up s a0))
  (round:∀a,inv a->(up s a).fo fb λs1=>c.gp P fb s1 (oO (λs'=>∃a',(inv a'/\mu a'<mu a)/\ah s' (up s a')) Q)):ax P c s Q:=by
 refine⟨λm s1=>∃a,m=mu a/\inv a/\s1=up s a,mu a0,up s a0,hw.out,⟨a0,rfl,h0,rfl⟩,?_⟩;rintro m s1 ⟨a,rfl,ha,rfl⟩;have:=round a ha;rw[St.dy] at this;refine RC.wp_mono (λx s' hx=>?_) (RC.kv this)
 cases x with
 |normal=>
  obtain⟨a',⟨h1,h2⟩,h3⟩:=hx
  exact⟨mu a',up s a',h2,h3.out,a',rfl,h1,rfl⟩
 |exit id=>exact hx
 |ret=>exact hx
theorem ax.count{P:Program}{fb:Bool}{c:RC}{s:St}{Q:AX->St->Prop}(n:Nat)(up:St->Nat->St)(inv:Nat->Prop)(h0:inv 0)(hw:ah s (up s 0))
  (round:∀j,j<n->inv j->(up s j).fo fb λs1=>c.gp P fb s1 (oO (λs'=>inv (j+1)/\ah s' (up s (j+1))) Q))
  (done:inv n->(up s n).fo fb λs1=>c.gp P fb s1 (oO (λ_=>False) Q)):ax P c s Q:=by
 refine⟨λm s1=>∃j,m=n-j/\(j<=n/\inv j)/\s1=up s j,n,up s 0,hw.out,⟨0,by omega,⟨zJ _,h0⟩,rfl⟩,?_⟩
 rintro m s1 ⟨j,rfl,⟨hj,hi⟩,rfl⟩;rcases zt j n with h|h
 .have:=round j h hi;rw[St.dy] at this;refine RC.wp_mono (λx s' hx=>?_) (RC.kv this)
  cases x with
  |normal=>exact⟨n-(j+1),up s (j+1),by omega,hx.2.out,j+1,rfl,⟨by omega,hx.1⟩,rfl⟩
  |exit id=>exact hx
  |ret=>exact hx
 .have e:j=n:=by omega
  subst e;have:=done hi;rw[St.dy] at this;refine RC.wp_mono (λx s' hx=>?_) (RC.kv this)
  cases x with
  |normal=>exact hx.elim
  |exit id=>exact hx
  |ret=>exact hx
end Go.AM
